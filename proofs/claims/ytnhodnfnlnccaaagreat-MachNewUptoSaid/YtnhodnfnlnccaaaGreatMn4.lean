/- An interpreter for Go's texts over plain data, its proof, and what it says of the functions that the law reaches. My own work. -/
import Derived.Test.YtnhodnfnlnccaaaGreatMn3
set_option linter.unusedSimpArgs false
set_option linter.unusedVariables false
set_option maxRecDepth 100000
set_option maxHeartbeats 2000000
namespace Vm
section
open Go Go.Proofs
theorem eReg (x : Int) (K : DV → Prop) : (ask Tryz.prog [] Tryz.f135 [I x] K) = (bif decide (x ≥ 0) then K (DV.c (D.v (Value.bool (decide (x < 4))))) else K (DV.c (D.v (Value.bool false)))) := by kernel_rfl
theorem oReg : Zac Tryz.prog 135 (sB lab) := oB Tryz.func135 (by kernel_rfl) rfl fun x => Zaj .nil mixed Tryz.func135 rfl rfl rfl (by
  rw [eReg]; unfold lab upto; rw [lt4]; cases decide (x ≥ 0) <;> rfl)
theorem Zse : Zac Tryz.prog 136 (sB lab) := oB Tryz.func136 (by kernel_rfl) rfl fun x => Zaj (.cons oUp .nil) mixed Tryz.func136 rfl rfl rfl (by
  have e : ask Tryz.prog [(119, sUp)] Tryz.f136 [I x] (fun r => r = B (lab x)) = (B (lab x) = B (lab x)) := by kernel_rfl
  rw [e])
def nA (c a : Int) : Int := if c = 0 ∨ c = 1 ∨ c = 2 ∨ c = 3 ∨ c = 4 ∨ c = 6 then a else 0
def nB (c b : Int) : Int := if c = 0 ∨ c = 1 ∨ c = 2 ∨ c = 3 ∨ c = 4 then b else 0
def nD (c d : Int) : Int := if c = 2 ∨ c = 3 then d else 0
def imay (c a b d : Int) : Bool := (c == 0 && (lab a && (val8 b && d == 0))) || ((c == 1 && (lab a && (lab b && d == 0))) || (((c == 2 || c == 3) && (lab a && (lab b && lab d))) || ((c == 4 && (lab a && (upto b 0 16 && d == 0))) || ((c == 5 && (a == 0 && (b == 0 && d == 0))) || (c == 6 && (val8 a && (b == 0 && d == 0)))))))
def ZnS : Spec := fun ds Q => match ds with | [.agg [.v (.int .i64 c), .v (.int .i64 a), .v (.int .i64 b), .v (.int .i64 d)]] => Q (.agg [vi c, vi (nA c a), vi (nB c b), vi (nD c d)]) | _ => False
def Zje : Spec := fun ds Q => match ds with | [.agg [.v (.int .i64 c), .v (.int .i64 a), .v (.int .i64 b), .v (.int .i64 d)]] => Q (B (imay c a b d)) | _ => False
theorem Ztk (c a b d : Int) (K : DV → Prop) : (ask Tryz.prog [] Tryz.f193 [.agg [vi c, vi a, vi b, vi d]] K) = (bif c == 0 then K (DV.agg [D.v (Value.int IntKind.i64 c), D.v (Value.int IntKind.i64 a), D.v (Value.int IntKind.i64 b), D.v (Value.int IntKind.i64 (0))]) else bif c == 1 then K (DV.agg [D.v (Value.int IntKind.i64 c), D.v (Value.int IntKind.i64 a), D.v (Value.int IntKind.i64 b), D.v (Value.int IntKind.i64 (0))]) else bif c == 4 then K (DV.agg [D.v (Value.int IntKind.i64 c), D.v (Value.int IntKind.i64 a), D.v (Value.int IntKind.i64 b), D.v (Value.int IntKind.i64 (0))]) else bif c == 2 then K (DV.agg [D.v (Value.int IntKind.i64 c), D.v (Value.int IntKind.i64 a), D.v (Value.int IntKind.i64 b), D.v (Value.int IntKind.i64 d)]) else bif c == 3 then K (DV.agg [D.v (Value.int IntKind.i64 c), D.v (Value.int IntKind.i64 a), D.v (Value.int IntKind.i64 b), D.v (Value.int IntKind.i64 d)]) else bif c == 6 then K (DV.agg [D.v (Value.int IntKind.i64 c), D.v (Value.int IntKind.i64 a), D.v (Value.int IntKind.i64 (0)), D.v (Value.int IntKind.i64 (0))]) else K (DV.agg [D.v (Value.int IntKind.i64 c), D.v (Value.int IntKind.i64 (0)), D.v (Value.int IntKind.i64 (0)), D.v (Value.int IntKind.i64 (0))])) := by kernel_rfl
theorem ZuV (c a b d : Int) (K : DV → Prop) : (ask Tryz.prog [(193, ZnS), (135, sB lab), (115, sB val8), (64, sB lab)] Tryz.f183 [.agg [vi c, vi a, vi b, vi d]] K) = (bif !eqI [c, nA c a, nB c b, nD c d] [c, a, b, d] then K (DV.c (D.v (Value.bool false))) else bif c == 0 then bif lab a then K (DV.c (D.v (Value.bool (val8 b)))) else K (DV.c (D.v (Value.bool false))) else bif c == 1 then bif lab a then K (DV.c (D.v (Value.bool (lab b)))) else K (DV.c (D.v (Value.bool false))) else bif c == 2 then bif lab a then bif lab b then bif decide (d ≥ 0) then K (DV.c (D.v (Value.bool (decide (d < 4))))) else K (DV.c (D.v (Value.bool false))) else K (DV.c (D.v (Value.bool false))) else K (DV.c (D.v (Value.bool false))) else bif c == 3 then bif lab a then bif lab b then bif decide (d ≥ 0) then K (DV.c (D.v (Value.bool (decide (d < 4))))) else K (DV.c (D.v (Value.bool false))) else K (DV.c (D.v (Value.bool false))) else K (DV.c (D.v (Value.bool false))) else bif c == 4 then bif lab a then bif decide (b ≥ 0) then K (DV.c (D.v (Value.bool (decide (b ≤ 16))))) else K (DV.c (D.v (Value.bool false))) else K (DV.c (D.v (Value.bool false))) else bif c == 5 then K (DV.c (D.v (Value.bool true))) else bif c == 6 then K (DV.c (D.v (Value.bool (val8 a)))) else K (DV.c (D.v (Value.bool false)))) := by kernel_rfl
theorem Zsd (c a b d : Int) (K : DV → Prop) : (ask Tryz.prog [(136, sB lab), (91, sB val8), (71, sB lab), (119, sUp)] Tryz.f184 [.agg [vi c, vi a, vi b, vi d]] K) = (bif c == 0 then bif lab a then bif val8 b then K (DV.c (D.v (Value.bool (d == 0)))) else K (DV.c (D.v (Value.bool false))) else K (DV.c (D.v (Value.bool false))) else bif c == 1 then bif lab a then bif lab b then K (DV.c (D.v (Value.bool (d == 0)))) else K (DV.c (D.v (Value.bool false))) else K (DV.c (D.v (Value.bool false))) else bif c == 2 then bif lab a then bif lab b then K (DV.c (D.v (Value.bool (upto d (0) (3))))) else K (DV.c (D.v (Value.bool false))) else K (DV.c (D.v (Value.bool false))) else bif c == 3 then bif lab a then bif lab b then K (DV.c (D.v (Value.bool (upto d (0) (3))))) else K (DV.c (D.v (Value.bool false))) else K (DV.c (D.v (Value.bool false))) else bif c == 4 then bif lab a then bif upto b (0) (16) then K (DV.c (D.v (Value.bool (d == 0)))) else K (DV.c (D.v (Value.bool false))) else K (DV.c (D.v (Value.bool false))) else bif c == 5 then K (DV.c (D.v (Value.bool (eqI [c, a, b, d] [5, 0, 0, 0])))) else bif c == 6 then bif val8 a then bif b == 0 then K (DV.c (D.v (Value.bool (d == 0)))) else K (DV.c (D.v (Value.bool false))) else K (DV.c (D.v (Value.bool false))) else K (DV.c (D.v (Value.bool false)))) := by kernel_rfl
theorem Ztf : Zac Tryz.prog 193 ZnS := o_of Tryz.func193 (by kernel_rfl) rfl fun ds Q h => by
  unfold ZnS at h; split at h
  · rename_i c a b d
    refine ⟨_, Zaj .nil mixed Tryz.func193 rfl rfl rfl ?_, rfl, rfl, h⟩
    rw [Ztk]
    by_cases h0 : c = 0
    · subst h0; rfl
    by_cases h1 : c = 1
    · subst h1; rfl
    by_cases h2 : c = 2
    · subst h2; rfl
    by_cases h3 : c = 3
    · subst h3; rfl
    by_cases h4 : c = 4
    · subst h4; rfl
    by_cases h6 : c = 6
    · subst h6; rfl
    simp [nA, nB, nD, h0, h1, h2, h3, h4, h6]
  · exact h.elim
theorem bz (d : Int) : (0 == d) = (d == 0) := by
  by_cases h : d = 0
  · subst h; rfl
  · rw [beq_eq_false_iff_ne.2 h, beq_eq_false_iff_ne.2 (fun e => h e.symm)]
theorem ZtW : Zac Tryz.prog 183 Zje := o_of Tryz.func183 (by kernel_rfl) rfl fun ds Q h => by
  unfold Zje at h; split at h
  · rename_i c a b d
    refine ⟨_, Zaj (.cons Ztf (.cons oReg (.cons oVal (.cons oLab .nil)))) mixed Tryz.func183 rfl rfl rfl ?_, rfl, rfl, h⟩
    rw [ZuV]
    by_cases h0 : c = 0
    · subst h0
      by_cases hd : d = 0
      · subst hd; cases ha : lab a <;> cases hb : val8 b <;> simp [imay, nA, nB, nD, eqI, ha, hb]
      · simp [imay, nA, nB, nD, eqI, bz, hd]
    by_cases h1 : c = 1
    · subst h1
      by_cases hd : d = 0
      · subst hd; cases ha : lab a <;> cases hb : lab b <;> simp [imay, nA, nB, nD, eqI, ha, hb]
      · simp [imay, nA, nB, nD, eqI, bz, hd]
    by_cases h2 : c = 2
    · subst h2
      rw [lt4]
      have hl : lab d = (decide (d ≥ 0) && decide (d ≤ 3)) := rfl
      by_cases hd : 0 ≤ d <;> cases ha : lab a <;> cases hb : lab b <;> simp [imay, nA, nB, nD, eqI, ha, hb, hl, hd]
    by_cases h3 : c = 3
    · subst h3
      rw [lt4]
      have hl : lab d = (decide (d ≥ 0) && decide (d ≤ 3)) := rfl
      by_cases hd : 0 ≤ d <;> cases ha : lab a <;> cases hb : lab b <;> simp [imay, nA, nB, nD, eqI, ha, hb, hl, hd]
    by_cases h4 : c = 4
    · subst h4
      by_cases hd : d = 0
      · subst hd; cases ha : lab a <;> cases hb : decide (b ≥ 0) <;> simp [imay, nA, nB, nD, eqI, ha, upto, hb]
      · simp [imay, nA, nB, nD, eqI, bz, hd]
    by_cases h5 : c = 5
    · subst h5
      by_cases hd : d = 0
      · subst hd
        by_cases ha : a = 0
        · subst ha
          by_cases hb : b = 0
          · subst hb; rfl
          · simp [imay, nA, nB, nD, eqI, bz, hb]
        · simp [imay, nA, nB, nD, eqI, bz, ha]
      · simp [imay, nA, nB, nD, eqI, bz, hd]
    by_cases h6 : c = 6
    · subst h6
      by_cases hd : d = 0
      · subst hd
        by_cases hb : b = 0
        · subst hb; cases ha : val8 a <;> simp [imay, nA, nB, nD, eqI, ha]
        · simp [imay, nA, nB, nD, eqI, bz, hb]
      · simp [imay, nA, nB, nD, eqI, bz, hd]
    simp [imay, h0, h1, h2, h3, h4, h5, h6]
  · exact h.elim
theorem ZsA : Zac Tryz.prog 184 Zje := o_of Tryz.func184 (by kernel_rfl) rfl fun ds Q h => by
  unfold Zje at h; split at h
  · rename_i c a b d
    refine ⟨_, Zaj (.cons Zse (.cons Zfz (.cons Zmi (.cons oUp .nil)))) mixed Tryz.func184 rfl rfl rfl ?_, rfl, rfl, h⟩
    rw [Zsd]
    have hl : lab d = upto d 0 3 := rfl
    by_cases h0 : c = 0
    · subst h0; cases ha : lab a <;> cases hb : val8 b <;> simp [imay, ha, hb]
    by_cases h1 : c = 1
    · subst h1; cases ha : lab a <;> cases hb : lab b <;> simp [imay, ha, hb]
    by_cases h2 : c = 2
    · subst h2; cases ha : lab a <;> cases hb : lab b <;> simp [imay, ha, hb, hl]
    by_cases h3 : c = 3
    · subst h3; cases ha : lab a <;> cases hb : lab b <;> simp [imay, ha, hb, hl]
    by_cases h4 : c = 4
    · subst h4; cases ha : lab a <;> cases hb : upto b 0 16 <;> simp [imay, ha, hb]
    by_cases h5 : c = 5
    · subst h5; simp [imay, eqI]
    by_cases h6 : c = 6
    · subst h6; cases ha : val8 a <;> cases hb : (b == 0) <;> simp_all [imay]
    simp [imay, h0, h1, h2, h3, h4, h5, h6]
  · exact h.elim
def ZuY (r : List Int) : Bool := imay (r.getD 0 0) (r.getD 1 0) (r.getD 2 0) (r.getD 3 0)
def pI (n i : Nat) (r : List Int) : Bool := ZuY r && !(r.getD 0 0 == 4 && (decide (r.getD 2 0 ≤ (i : Int)) || decide (r.getD 2 0 > (n : Int))))
def Zb7 (l : List (List Int)) (k : Nat) : Bool := (List.range k).all fun i => pI l.length i (l.getD i [])
def pmay (l : List (List Int)) : Bool := Zb7 l l.length && decide (l.length ≤ 16)
theorem ZhA (l : List (List Int)) (i : Nat) : Zb7 l (i + 1) = (Zb7 l i && pI l.length i (l.getD i [])) := by simp [Zb7, List.range_succ]
theorem Zls {l : List (List Int)} {i n : Nat} (h : i ≤ n) (hc : Zb7 l n = true) : Zb7 l i = true := by
  simp only [Zb7, List.all_eq_true, List.mem_range] at hc ⊢
  exact fun j hj => hc j (by omega)
def stPM (R sp : List (List D)) (i : Int) (p : Bool) : X := ⟨mkT 37 [(0, aS 4 R sp), (2, ab p), (5, aS 4 R sp), (6, ai R.length), (7, ai i)], [], [], []⟩
def vPM (R sp : List (List D)) (y : X) : X := stPM R sp (Zci y 7) (ZjE y 2)
theorem ePMr (R sp : List (List D)) (i : Int) (p : Bool) (N : X → Prop) (E : Exit → X → Prop) : (ZaJ band bor Tryz.prog [(183, Zje)] [] Tryz.f144 0 [0, 2, 5, 6, 7] [] (vPM R sp) (vPM R sp) N E (stPM R sp i p)) = (bif decide (i < @Nat.cast Int _ (List.length R)) then bif decide (0 ≤ i) && decide (i < @Nat.cast Int _ (List.length R)) then bif isJ [IntKind.i64, IntKind.i64, IntKind.i64, IntKind.i64] (List.drop (0) (List.getD R (Int.toNat i) [])) then bif !imay (hdJ (List.drop (0) (List.getD R (Int.toNat i) []))) (hdJ (List.tail (List.drop (0) (List.getD R (Int.toNat i) [])))) (hdJ (List.tail (List.tail (List.drop (0) (List.getD R (Int.toNat i) []))))) (hdJ (List.tail (List.tail (List.tail (List.drop (0) (List.getD R (Int.toNat i) [])))))) then stPM R sp i false = stPM R sp i false ∧ E Exit.ret (stPM R sp i false) else bif hdJ (List.drop (0) (List.getD R (Int.toNat i) [])) == 4 then bif decide (hdJ (List.tail (List.tail (List.drop (0) (List.getD R (Int.toNat i) [])))) ≤ i) then stPM R sp i false = stPM R sp i false ∧ E Exit.ret (stPM R sp i false) else bif decide (hdJ (List.tail (List.tail (List.drop (0) (List.getD R (Int.toNat i) [])))) > @Nat.cast Int _ (List.length R)) then stPM R sp i false = stPM R sp i false ∧ E Exit.ret (stPM R sp i false) else stPM R sp (IntKind.wrap IntKind.i64 (i + 1)) p = stPM R sp (IntKind.wrap IntKind.i64 (i + 1)) p ∧ N (stPM R sp (IntKind.wrap IntKind.i64 (i + 1)) p) else stPM R sp (IntKind.wrap IntKind.i64 (i + 1)) p = stPM R sp (IntKind.wrap IntKind.i64 (i + 1)) p ∧ N (stPM R sp (IntKind.wrap IntKind.i64 (i + 1)) p) else False else False else stPM R sp i p = stPM R sp i p ∧ E (Exit.exit (0)) (stPM R sp i p)) := by kernel_rfl
def Zrd (l : List (List Int)) (sp : List (List D)) : LSum := fun Q x => x.only [0, 2, 5, 6, 7] [] = stPM (mZ l) sp 0 false ∧ (Zb7 l l.length = false → ∀ i : Int, Q .ret (stPM (mZ l) sp i false)) ∧ (Zb7 l l.length = true → Q (.exit 0) (stPM (mZ l) sp l.length false))
theorem ePM (l : List (List Int)) (sp : List (List D)) (K : DV → Prop) : (askL Tryz.prog [] [(2, Zrd l sp)] Tryz.f144 [dS 4 (mZ l) sp] K) = (stPM (mZ l) sp (0) false = stPM (mZ l) sp (0) false ∧ (Zb7 l (List.length l) = false → ∀ (i : Int), K (DV.c (D.v (Value.bool false)))) ∧ (Zb7 l (List.length l) = true → K (DV.c (D.v (Value.bool (decide (@Nat.cast Int _ (List.length (mZ l)) ≤ 16))))))) := by kernel_rfl
def ZbE (R sp : List (List D)) (i : Int) (p : Bool) : X := ⟨mkT 46 [(0, aS 4 R sp), (2, ab p), (3, ai i)], [], [], []⟩
def vRPM (R sp : List (List D)) (y : X) : X := ZbE R sp (Zci y 3) (ZjE y 2)
theorem Zui (R sp : List (List D)) (i : Int) (p : Bool) (N : X → Prop) (E : Exit → X → Prop) : (ZaJ band bor Tryz.prog [(184, Zje)] [] Tryz.f147 0 [0, 2, 3] [] (vRPM R sp) (vRPM R sp) N E (ZbE R sp i p)) = (bif decide (i < @Nat.cast Int _ (List.length R)) then bif decide (0 ≤ i) && decide (i < @Nat.cast Int _ (List.length R)) then bif isJ [IntKind.i64, IntKind.i64, IntKind.i64, IntKind.i64] (List.drop (0) (List.getD R (Int.toNat i) [])) then bif !imay (hdJ (List.drop (0) (List.getD R (Int.toNat i) []))) (hdJ (List.tail (List.drop (0) (List.getD R (Int.toNat i) [])))) (hdJ (List.tail (List.tail (List.drop (0) (List.getD R (Int.toNat i) []))))) (hdJ (List.tail (List.tail (List.tail (List.drop (0) (List.getD R (Int.toNat i) [])))))) then ZbE R sp i false = ZbE R sp i false ∧ E Exit.ret (ZbE R sp i false) else bif decide (0 ≤ i) && decide (i < @Nat.cast Int _ (List.length R)) then bif isJ [IntKind.i64] (List.drop (0) (List.getD R (Int.toNat i) [])) then bif hdJ (List.drop (0) (List.getD R (Int.toNat i) [])) == 4 then bif decide (0 ≤ i) && decide (i < @Nat.cast Int _ (List.length R)) then bif isJ [IntKind.i64] (List.drop (2) (List.getD R (Int.toNat i) [])) then bif decide (hdJ (List.drop (2) (List.getD R (Int.toNat i) [])) ≤ i) then ZbE R sp i false = ZbE R sp i false ∧ E Exit.ret (ZbE R sp i false) else bif decide (0 ≤ i) && decide (i < @Nat.cast Int _ (List.length R)) then bif isJ [IntKind.i64] (List.drop (2) (List.getD R (Int.toNat i) [])) then bif decide (hdJ (List.drop (2) (List.getD R (Int.toNat i) [])) > @Nat.cast Int _ (List.length R)) then ZbE R sp i false = ZbE R sp i false ∧ E Exit.ret (ZbE R sp i false) else ZbE R sp (IntKind.wrap IntKind.i64 (i + 1)) p = ZbE R sp (IntKind.wrap IntKind.i64 (i + 1)) p ∧ N (ZbE R sp (IntKind.wrap IntKind.i64 (i + 1)) p) else False else False else False else False else ZbE R sp (IntKind.wrap IntKind.i64 (i + 1)) p = ZbE R sp (IntKind.wrap IntKind.i64 (i + 1)) p ∧ N (ZbE R sp (IntKind.wrap IntKind.i64 (i + 1)) p) else False else False else False else False else ZbE R sp i p = ZbE R sp i p ∧ E (Exit.exit (0)) (ZbE R sp i p)) := by kernel_rfl
def ZoA (l : List (List Int)) (sp : List (List D)) : LSum := fun Q x => x.only [0, 2, 3] [] = ZbE (mZ l) sp 0 false ∧ (Zb7 l l.length = false → ∀ i : Int, Q .ret (ZbE (mZ l) sp i false)) ∧ (Zb7 l l.length = true → Q (.exit 0) (ZbE (mZ l) sp l.length false))
theorem eRPM (l : List (List Int)) (sp : List (List D)) (K : DV → Prop) : (askL Tryz.prog [] [(2, ZoA l sp)] Tryz.f147 [dS 4 (mZ l) sp] K) = (ZbE (mZ l) sp (0) false = ZbE (mZ l) sp (0) false ∧ (Zb7 l (List.length l) = false → ∀ (i : Int), K (DV.c (D.v (Value.bool false)))) ∧ (Zb7 l (List.length l) = true → K (DV.c (D.v (Value.bool (decide (@Nat.cast Int _ (List.length (mZ l)) ≤ 16))))))) := by kernel_rfl
end

section
open Go Go.Proofs
theorem Zt5 {l : List (List Int)} {sp : List (List D)} (hw : wid 4 l) (hn : l.length ≤ 9223372036854775807) (Q : Exit → X → Prop) (x : X) (h : Zrd l sp Q x) : XWP Tryz.prog (.loop (Zak Tryz.f144 0)) Q x := by
  obtain ⟨h1, h2, h3⟩ := h
  refine Zaw (ι := Nat) (H := hkA band bor [(183, Zje)] []) (fn := Tryz.f144) (i := 0) (ts := [0, 2, 5, 6, 7]) (ks := []) (ZaI (.cons ZtW .nil)) mixed (Zae rfl)
    (fun i => stPM (mZ l) sp i false) (fun i => i ≤ l.length ∧ Zb7 l i = true) (fun i => l.length - i) 0 (vPM (mZ l) sp) (vPM (mZ l) sp) (fun i hp => ?_) ⟨Nat.zero_le _, rfl⟩ h1
  obtain ⟨hi, hj⟩ := hp
  show ZaJ band bor Tryz.prog _ _ Tryz.f144 0 _ _ _ _ _ _ _
  rw [ePMr]
  by_cases hl : i < l.length
  · have wi : IntKind.wrap .i64 ((i : Int) + 1) = ((i + 1 : Nat) : Int) := Zai (n := 1) (by omega)
    have hj1 : isJ [IntKind.i64, IntKind.i64, IntKind.i64, IntKind.i64] ((mZ l).getD i []) = true := Zap (j := 0) (n := 4) hw hl (by omega)
    simp only [Zag, Int.ofNat_lt, hl, decide_true, cond_true, Int.natCast_nonneg, Bool.and_self, Int.toNat_natCast, ZaK, ZaM, Zbc, hj1, List.drop_zero, Zay, true_and, wi]
    have hp : pI l.length i (l.getD i []) = (imay ((l.getD i []).getD 0 0) ((l.getD i []).getD 1 0) ((l.getD i []).getD 2 0) ((l.getD i []).getD 3 0) && !((l.getD i []).getD 0 0 == 4 && (decide ((l.getD i []).getD 2 0 ≤ (i : Int)) || decide ((l.getD i []).getD 2 0 > (l.length : Int))))) := rfl
    have bad : pI l.length i (l.getD i []) = false → Zb7 l l.length = false := fun hb => by
      rw [Bool.eq_false_iff]; intro hc
      have := Zls (i := i + 1) (by omega) hc
      rw [ZhA, hb] at this; simp at this
    have good : pI l.length i (l.getD i []) = true → Zb7 l (i + 1) = true := fun hb => by rw [ZhA, hj, hb]; rfl
    generalize (l.getD i []).getD 0 0 = c at *
    generalize (l.getD i []).getD 1 0 = a at *
    generalize (l.getD i []).getD 2 0 = b at *
    generalize (l.getD i []).getD 3 0 = d at *
    have next : pI l.length i (l.getD i []) = true → ∃ p', l.length - p' < l.length - i ∧ (p' ≤ l.length ∧ Zb7 l p' = true) ∧ stPM (mZ l) sp ((i + 1 : Nat) : Int) false = stPM (mZ l) sp (p' : Int) false := fun hb => ⟨i + 1, by omega, ⟨hl, good hb⟩, rfl⟩
    cases hm : imay c a b d with
    | false => exact h2 (bad (by rw [hp, hm]; rfl)) _
    | true =>
      cases hc : (c == 4) with
      | false => exact next (by rw [hp, hm, hc]; rfl)
      | true =>
        cases hb1 : decide (b ≤ (i : Int)) with
        | true => exact h2 (bad (by rw [hp, hm, hc, hb1]; rfl)) _
        | false =>
          cases hb2 : decide (b > (l.length : Int)) with
          | true => exact h2 (bad (by rw [hp, hm, hc, hb1, hb2]; rfl)) _
          | false => exact next (by rw [hp, hm, hc, hb1, hb2]; rfl)
  · have e : i = l.length := by omega
    subst e
    simp only [Zag, Int.ofNat_lt, Nat.lt_irrefl, decide_false, cond_false, true_and]
    exact h3 hj
theorem Ztr {l : List (List Int)} {sp : List (List D)} (hw : wid 4 l) (hn : l.length ≤ 9223372036854775807) (Q : Exit → X → Prop) (x : X) (h : ZoA l sp Q x) : XWP Tryz.prog (.loop (Zak Tryz.f147 0)) Q x := by
  obtain ⟨h1, h2, h3⟩ := h
  refine Zaw (ι := Nat) (H := hkA band bor [(184, Zje)] []) (fn := Tryz.f147) (i := 0) (ts := [0, 2, 3]) (ks := []) (ZaI (.cons ZsA .nil)) mixed (Zae rfl)
    (fun i => ZbE (mZ l) sp i false) (fun i => i ≤ l.length ∧ Zb7 l i = true) (fun i => l.length - i) 0 (vRPM (mZ l) sp) (vRPM (mZ l) sp) (fun i hp => ?_) ⟨Nat.zero_le _, rfl⟩ h1
  obtain ⟨hi, hj⟩ := hp
  show ZaJ band bor Tryz.prog _ _ Tryz.f147 0 _ _ _ _ _ _ _
  rw [Zui]
  by_cases hl : i < l.length
  · have wi : IntKind.wrap .i64 ((i : Int) + 1) = ((i + 1 : Nat) : Int) := Zai (n := 1) (by omega)
    have hj1 : isJ [IntKind.i64, IntKind.i64, IntKind.i64, IntKind.i64] ((mZ l).getD i []) = true := Zap (j := 0) (n := 4) hw hl (by omega)
    have hj2 : isJ [IntKind.i64] ((mZ l).getD i []) = true := ZdI (j := 0) hw hl (by omega)
    have hj3 : isJ [IntKind.i64] (((mZ l).getD i []).drop 2) = true := ZdI (j := 2) hw hl (by omega)
    simp only [Zag, Int.ofNat_lt, hl, decide_true, cond_true, Int.natCast_nonneg, Bool.and_self, Int.toNat_natCast, ZaK, ZaM, Zbc, hj1, hj2, hj3, List.drop_zero, Zay, Zct, true_and, wi]
    have hp : pI l.length i (l.getD i []) = (imay ((l.getD i []).getD 0 0) ((l.getD i []).getD 1 0) ((l.getD i []).getD 2 0) ((l.getD i []).getD 3 0) && !((l.getD i []).getD 0 0 == 4 && (decide ((l.getD i []).getD 2 0 ≤ (i : Int)) || decide ((l.getD i []).getD 2 0 > (l.length : Int))))) := rfl
    have bad : pI l.length i (l.getD i []) = false → Zb7 l l.length = false := fun hb => by
      rw [Bool.eq_false_iff]; intro hc
      have := Zls (i := i + 1) (by omega) hc
      rw [ZhA, hb] at this; simp at this
    have good : pI l.length i (l.getD i []) = true → Zb7 l (i + 1) = true := fun hb => by rw [ZhA, hj, hb]; rfl
    generalize (l.getD i []).getD 0 0 = c at *
    generalize (l.getD i []).getD 1 0 = a at *
    generalize (l.getD i []).getD 2 0 = b at *
    generalize (l.getD i []).getD 3 0 = d at *
    have next : pI l.length i (l.getD i []) = true → ∃ p', l.length - p' < l.length - i ∧ (p' ≤ l.length ∧ Zb7 l p' = true) ∧ ZbE (mZ l) sp ((i + 1 : Nat) : Int) false = ZbE (mZ l) sp (p' : Int) false := fun hb => ⟨i + 1, by omega, ⟨hl, good hb⟩, rfl⟩
    cases hm : imay c a b d with
    | false => exact h2 (bad (by rw [hp, hm]; rfl)) _
    | true =>
      cases hc : (c == 4) with
      | false => exact next (by rw [hp, hm, hc]; rfl)
      | true =>
        cases hb1 : decide (b ≤ (i : Int)) with
        | true => exact h2 (bad (by rw [hp, hm, hc, hb1]; rfl)) _
        | false =>
          cases hb2 : decide (b > (l.length : Int)) with
          | true => exact h2 (bad (by rw [hp, hm, hc, hb1, hb2]; rfl)) _
          | false => exact next (by rw [hp, hm, hc, hb1, hb2]; rfl)
  · have e : i = l.length := by omega
    subst e
    simp only [Zag, Int.ofNat_lt, Nat.lt_irrefl, decide_false, cond_false, true_and]
    exact h3 hj
def Zmf : Spec := fun ds Q => match ds with | [.c (.s 0 4 R sp)] => cond (okZ 4 R) (Q (B (pmay (toZ R)))) False | _ => False
theorem ZtI : Zac Tryz.prog 144 Zmf := o_of Tryz.func144 (by kernel_rfl) rfl fun ds Q h => by
  unfold Zmf at h; split at h
  · rename_i R sp
    obtain ⟨h1, h2⟩ := Zaf h
    obtain ⟨e1, w1, n1⟩ := Zah h1
    rw [e1]
    rw [← Zat R] at n1
    generalize toZ R = l at *
    refine ⟨_, ZaH (l := []) (m := [(2, Zrd l sp)]) .nil mixed (Zbo rfl (by kernel_rfl) (Zt5 w1 n1)) Tryz.func144 rfl rfl rfl ?_, rfl, rfl, h2⟩
    rw [ePM, Zag]
    have e16 : decide ((l.length : Int) ≤ 16) = decide (l.length ≤ 16) := by congr 1; exact propext ⟨fun h => by omega, fun h => by omega⟩
    refine ⟨rfl, fun hb _ => ?_, fun hb => ?_⟩
    · simp [pmay, hb]
    · rw [e16]; simp [pmay, hb]
  · exact h.elim
theorem ZsO : Zac Tryz.prog 147 Zmf := o_of Tryz.func147 (by kernel_rfl) rfl fun ds Q h => by
  unfold Zmf at h; split at h
  · rename_i R sp
    obtain ⟨h1, h2⟩ := Zaf h
    obtain ⟨e1, w1, n1⟩ := Zah h1
    rw [e1]
    rw [← Zat R] at n1
    generalize toZ R = l at *
    refine ⟨_, ZaH (l := []) (m := [(2, ZoA l sp)]) .nil mixed (Zbo rfl (by kernel_rfl) (Ztr w1 n1)) Tryz.func147 rfl rfl rfl ?_, rfl, rfl, h2⟩
    rw [eRPM, Zag]
    have e16 : decide ((l.length : Int) ≤ 16) = decide (l.length ≤ 16) := by congr 1; exact propext ⟨fun h => by omega, fun h => by omega⟩
    refine ⟨rfl, fun hb _ => ?_, fun hb => ?_⟩
    · simp [pmay, hb]
    · rw [e16]; simp [pmay, hb]
  · exact h.elim
theorem oId : Zac Tryz.prog 142 (sB idm) := oB Tryz.func142 (by kernel_rfl) rfl fun x => Zaj (.cons oIn .nil) mixed Tryz.func142 rfl rfl rfl (by
  have e : ask Tryz.prog [(150, sIn)] Tryz.f142 [I x] (fun r => r = B (idm x)) = (B (idm x) = B (idm x)) := by kernel_rfl
  rw [e])
theorem oRId : Zac Tryz.prog 145 (sB idm) := oB Tryz.func145 (by kernel_rfl) rfl fun x => Zaj (.cons oUp .nil) mixed Tryz.func145 rfl rfl rfl (by
  have e : ask Tryz.prog [(119, sUp)] Tryz.f145 [I x] (fun r => r = B (idm x)) = (B (idm x) = B (idm x)) := by kernel_rfl
  rw [e])
def und (a b : Int) : Bool := bor a b == b
def sUnd : Spec := fun ds Q => match ds with | [.c (.v (.int .i64 a)), .c (.v (.int .i64 b))] => Q (B (und a b)) | _ => False
theorem eUnd (o : Int → Int → Int) (a b : Int) (K : DV → Prop) : (askA band o Tryz.prog [] [] Tryz.f143 [I a, I b] K) = (K (DV.c (D.v (Value.bool (o a b == b))))) := by kernel_rfl
theorem ZuQ (o : Int → Int → Int) (a b : Int) (K : DV → Prop) : (askA band o Tryz.prog [] [] Tryz.f146 [I a, I b] K) = (K (DV.c (D.v (Value.bool (o a b == b))))) := by kernel_rfl
theorem oUnd : Zac Tryz.prog 143 sUnd := o_of Tryz.func143 (by kernel_rfl) rfl fun ds Q h => by
  unfold sUnd at h; split at h
  · refine ⟨_, ZaH (l := []) (m := []) .nil mixed (Zae rfl) Tryz.func143 rfl rfl rfl (by
      show askA band bor Tryz.prog _ _ Tryz.f143 _ _
      rw [eUnd]; rfl), rfl, rfl, h⟩
  · exact h.elim
theorem Zs2 : Zac Tryz.prog 146 sUnd := o_of Tryz.func146 (by kernel_rfl) rfl fun ds Q h => by
  unfold sUnd at h; split at h
  · refine ⟨_, ZaH (l := []) (m := []) .nil mixed (Zae rfl) Tryz.func146 rfl rfl rfl (by
      show askA band bor Tryz.prog _ _ Tryz.f146 _ _
      rw [ZuQ]; rfl), rfl, rfl, h⟩
  · exact h.elim
def smay (i g c : Int) (l : List (List Int)) : Bool := idm i && (lab g && (lab c && (und g c && pmay l)))
abbrev Zlu (i g c : Int) (R sp : List (List D)) : DV := .agg [vi i, vi g, vi c, .s 0 4 R sp]
theorem ZuK (i g c : Int) (R sp : List (List D)) (K : DV → Prop) : (ask Tryz.prog [(142, sB idm), (64, sB lab), (143, sUnd), (144, Zmf)] Tryz.f89 [Zlu i g c R sp] K) = (bif idm i then bif lab g then bif lab c then bif und g c then bif okZ (4) R then K (DV.c (D.v (Value.bool (pmay (toZ R))))) else False else K (DV.c (D.v (Value.bool false))) else K (DV.c (D.v (Value.bool false))) else K (DV.c (D.v (Value.bool false))) else K (DV.c (D.v (Value.bool false)))) := by kernel_rfl
theorem ZsF (i g c : Int) (R sp : List (List D)) (K : DV → Prop) : (ask Tryz.prog [(145, sB idm), (71, sB lab), (146, sUnd), (147, Zmf)] Tryz.f92 [Zlu i g c R sp] K) = (bif idm i then bif lab g then bif lab c then bif und g c then bif okZ (4) R then K (DV.c (D.v (Value.bool (pmay (toZ R))))) else False else K (DV.c (D.v (Value.bool false))) else K (DV.c (D.v (Value.bool false))) else K (DV.c (D.v (Value.bool false))) else K (DV.c (D.v (Value.bool false)))) := by kernel_rfl
def ZiV : Spec := fun ds Q => match ds with | [.agg [.v (.int .i64 i), .v (.int .i64 g), .v (.int .i64 c), .s 0 4 R sp]] => cond (okZ 4 R) (Q (B (smay i g c (toZ R)))) False | _ => False
theorem ZsV (i g c : Int) (R sp : List (List D)) (K : DV → Prop) : (ask Tryz.prog [(89, ZiV), (90, ZcU)] Tryz.f49 [Zlu i g c R sp] K) = (bif okZ (4) R then bif !smay i g c (toZ R) then K (DV.tup [DV.agg [D.v (Value.int IntKind.i64 (0)), D.v (Value.int IntKind.i64 (0)), D.v (Value.int IntKind.i64 (0)), D.v (Value.slice none (0) (0)), D.v (Value.int IntKind.i64 (0)), D.v (Value.int IntKind.i64 (0)), D.v (Value.int IntKind.i64 (0)), D.v (Value.int IntKind.i64 (0)), D.v (Value.int IntKind.i64 (0)), D.v (Value.int IntKind.i64 (0)), D.v (Value.slice none (0) (0)), D.v (Value.slice none (0) (0)), D.v (Value.int IntKind.i64 (0)), D.v (Value.int IntKind.i64 (0)), D.v (Value.int IntKind.i64 (0)), D.v (Value.int IntKind.i64 (0)), D.v (Value.int IntKind.i64 (0))], DV.c (D.v (Value.int IntKind.i64 (1100)))]) else bif allV R && decide (List.length R ≤ 4398046510977) then bif decide (List.length R ≤ List.length (R ++ [])) && List.all (R ++ []) fun r => List.all r D.keeps then K (DV.tup [DV.agg [D.v (Value.int IntKind.i64 i), D.v (Value.int IntKind.i64 g), D.v (Value.int IntKind.i64 c), D.s (1) (4) (List.take (List.length R) (R ++ [])) (List.take (List.length R + 0 - List.length R) (List.drop (List.length R) (R ++ []))), D.v (Value.int IntKind.i64 (0)), D.v (Value.int IntKind.i64 (0)), D.v (Value.int IntKind.i64 (0)), D.v (Value.int IntKind.i64 (0)), D.v (Value.int IntKind.i64 (0)), D.v (Value.int IntKind.i64 (0)), D.v (Value.slice none (0) (0)), D.v (Value.slice none (0) (0)), D.v (Value.int IntKind.i64 (0)), D.v (Value.int IntKind.i64 (0)), D.v (Value.int IntKind.i64 (0)), D.v (Value.int IntKind.i64 (0)), D.v (Value.int IntKind.i64 (0))], DV.c (D.v (Value.int IntKind.i64 (0)))]) else False else False else False) := by kernel_rfl
theorem Zqf (i g c : Int) (R sp : List (List D)) (K : DV → Prop) : (ask Tryz.prog [(92, ZiV)] Tryz.f51 [Zlu i g c R sp] K) = (bif okZ (4) R then bif !smay i g c (toZ R) then K (DV.tup [DV.agg [D.v (Value.int IntKind.i64 (0)), D.v (Value.int IntKind.i64 (0)), D.v (Value.int IntKind.i64 (0)), D.v (Value.slice none (0) (0)), D.v (Value.int IntKind.i64 (0)), D.v (Value.int IntKind.i64 (0)), D.v (Value.int IntKind.i64 (0)), D.v (Value.int IntKind.i64 (0)), D.v (Value.int IntKind.i64 (0)), D.v (Value.int IntKind.i64 (0)), D.v (Value.slice none (0) (0)), D.v (Value.slice none (0) (0)), D.v (Value.int IntKind.i64 (0)), D.v (Value.int IntKind.i64 (0)), D.v (Value.int IntKind.i64 (0)), D.v (Value.int IntKind.i64 (0)), D.v (Value.int IntKind.i64 (0))], DV.c (D.v (Value.int IntKind.i64 (1100)))]) else bif allV R then bif true && (decide ((0 + List.length R) * 32 ≤ 140737488355328) && decide (0 + List.length R ≤ 9223372036854775807)) then bif decide (0 + List.length R ≤ List.length ([] ++ R)) && List.all ([] ++ R) fun r => List.all r D.keeps then K (DV.tup [DV.agg [D.v (Value.int IntKind.i64 i), D.v (Value.int IntKind.i64 g), D.v (Value.int IntKind.i64 c), D.s (1) (4) (List.take (0 + List.length R) ([] ++ R)) (List.take (0 + List.length R - (0 + List.length R)) (List.drop (0 + List.length R) ([] ++ R))), D.v (Value.int IntKind.i64 (0)), D.v (Value.int IntKind.i64 (0)), D.v (Value.int IntKind.i64 (0)), D.v (Value.int IntKind.i64 (0)), D.v (Value.int IntKind.i64 (0)), D.v (Value.int IntKind.i64 (0)), D.v (Value.slice none (0) (0)), D.v (Value.slice none (0) (0)), D.v (Value.int IntKind.i64 (0)), D.v (Value.int IntKind.i64 (0)), D.v (Value.int IntKind.i64 (0)), D.v (Value.int IntKind.i64 (0)), D.v (Value.int IntKind.i64 (0))], DV.c (D.v (Value.int IntKind.i64 (0)))]) else False else False else False else False) := by kernel_rfl
end

section
open Go Go.Proofs
theorem bifK (p q : Bool) (x : DV) : (bif p then (DV.c (.v (.bool q)) = x) else (DV.c (.v (.bool false)) = x)) = (DV.c (.v (.bool (p && q))) = x) := by cases p <;> rfl
theorem ZqW : Zac Tryz.prog 89 ZiV := o_of Tryz.func89 (by kernel_rfl) rfl fun ds Q h => by
  unfold ZiV at h; split at h
  · obtain ⟨h1, h2⟩ := Zaf h
    refine ⟨_, Zaj (.cons oId (.cons oLab (.cons oUnd (.cons ZtI .nil)))) mixed Tryz.func89 rfl rfl rfl ?_, rfl, rfl, h2⟩
    rw [ZuK, h1, cond_true]
    simp only [bifK]
    rfl
  · exact h.elim
theorem Zn2 : Zac Tryz.prog 92 ZiV := o_of Tryz.func92 (by kernel_rfl) rfl fun ds Q h => by
  unfold ZiV at h; split at h
  · obtain ⟨h1, h2⟩ := Zaf h
    refine ⟨_, Zaj (.cons oRId (.cons Zmi (.cons Zs2 (.cons ZsO .nil)))) mixed Tryz.func92 rfl rfl rfl ?_, rfl, rfl, h2⟩
    rw [ZsF, h1, cond_true]
    simp only [bifK]
    rfl
  · exact h.elim
abbrev nilD : D := .v (.slice none 0 0)
abbrev Zla (i g c : Int) (p : D) : DV := .agg [vi i, vi g, vi c, p, vi 0, vi 0, vi 0, vi 0, vi 0, vi 0, nilD, nilD, vi 0, vi 0, vi 0, vi 0, vi 0]
def ZmR : Spec := fun ds Q => match ds with
  | [.agg [.v (.int .i64 i), .v (.int .i64 g), .v (.int .i64 c), .s 0 4 R sp]] => cond (okZ 4 R && decide (R.length ≤ 4398046510977)) (cond (smay i g c (toZ R)) (Q (.tup [Zla i g c (.s 1 4 R []), I 0])) (Q (.tup [Zla 0 0 0 nilD, I 1100]))) False
  | _ => False
theorem Zim {i g c : Int} {R : List (List D)} (h : allV R = true) : (DV.tup [Zla i g c (.s 1 4 R []), I 0]).pureOwn = true := by
  simp [DV.pureOwn, DV.pureOwn.go, DV.pure1, D.pureOwn, ownL, ZaO h, Zd8]
theorem Zsr : Zac Tryz.prog 49 ZmR := o_of Tryz.func49 (by kernel_rfl) rfl fun ds Q h => by
  unfold ZmR at h; split at h
  · rename_i i g c R sp
    obtain ⟨h1, h2⟩ := Zaf h
    simp only [Bool.and_eq_true, decide_eq_true_eq] at h1
    obtain ⟨hR, hl⟩ := h1
    cases hm : smay i g c (toZ R) with
    | true =>
      rw [hm] at h2
      refine ⟨_, Zaj (.cons ZqW (.cons ZdP .nil)) mixed Tryz.func49 rfl rfl rfl ?_, Zim (ZaR hR), rfl, h2⟩
      rw [ZsV]
      simp only [hR, hl, ZaR hR, hm, ZaE (ZaR hR), decide_true, Bool.and_self, Bool.not_true, cond_true, cond_false, List.append_nil, Nat.le_refl, List.take_length, Nat.add_zero, Nat.sub_self, List.take_zero]
    | false =>
      rw [hm] at h2
      refine ⟨_, Zaj (.cons ZqW (.cons ZdP .nil)) mixed Tryz.func49 rfl rfl rfl ?_, rfl, rfl, h2⟩
      rw [ZsV]
      simp only [hR, hm, Bool.not_false, cond_true]
  · exact h.elim
theorem ZsW : Zac Tryz.prog 51 ZmR := o_of Tryz.func51 (by kernel_rfl) rfl fun ds Q h => by
  unfold ZmR at h; split at h
  · rename_i i g c R sp
    obtain ⟨h1, h2⟩ := Zaf h
    simp only [Bool.and_eq_true, decide_eq_true_eq] at h1
    obtain ⟨hR, hl⟩ := h1
    cases hm : smay i g c (toZ R) with
    | true =>
      rw [hm] at h2
      refine ⟨_, Zaj (.cons Zn2 .nil) mixed Tryz.func51 rfl rfl rfl ?_, Zim (ZaR hR), rfl, h2⟩
      rw [Zqf]
      have g1 : R.length * 32 ≤ 140737488355328 := by omega
      have g2 : R.length ≤ 9223372036854775807 := by omega
      simp only [hR, g1, g2, ZaR hR, hm, ZaE (ZaR hR), decide_true, Bool.and_self, Bool.not_true, cond_true, cond_false, List.nil_append, Nat.le_refl, List.take_length, Nat.zero_add, Nat.sub_self, List.take_zero]
    | false =>
      rw [hm] at h2
      refine ⟨_, Zaj (.cons Zn2 .nil) mixed Tryz.func51 rfl rfl rfl ?_, rfl, rfl, h2⟩
      rw [Zqf]
      simp only [hR, hm, Bool.not_false, cond_true]
  · exact h.elim
end

section
open Go Go.Proofs
theorem oClk : Zac Tryz.prog 102 (sB clk) := oB Tryz.func102 (by kernel_rfl) rfl fun x => Zaj (.cons oIn .nil) mixed Tryz.func102 rfl rfl rfl (by
  have e : ask Tryz.prog [(150, sIn)] Tryz.f102 [I x] (fun r => r = B (clk x)) = (B (clk x) = B (clk x)) := by kernel_rfl
  rw [e])
theorem ZgD : Zac Tryz.prog 69 (sB clk) := oB Tryz.func69 (by kernel_rfl) rfl fun x => Zaj (.cons oUp .nil) mixed Tryz.func69 rfl rfl rfl (by
  have e : ask Tryz.prog [(119, sUp)] Tryz.f69 [I x] (fun r => r = B (clk x)) = (B (clk x) = B (clk x)) := by kernel_rfl
  rw [e])
def wmay (v c l : Int) : Bool := val8 v && (clk c && upto l 0 255)
def Zex : Spec := fun ds Q => match ds with | [.agg [.v (.int .i64 a), .v (.int .i64 b), .v (.int .i64 c)]] => Q (B (wmay a b c)) | _ => False
def sOdd : Spec := fun ds Q => match ds with | [.agg [.v (.int .i64 a), .v (.int .i64 b), .v (.int .i64 c)]] => Q (B (!wmay a b c)) | _ => False
theorem ZuU (a b c : Int) (K : DV → Prop) : (ask Tryz.prog [(115, sB val8), (102, sB clk), (150, sIn)] Tryz.f100 [.agg [vi a, vi b, vi c]] K) = (bif val8 a then bif clk b then K (DV.c (D.v (Value.bool (upto c (0) (255))))) else K (DV.c (D.v (Value.bool false))) else K (DV.c (D.v (Value.bool false)))) := by kernel_rfl
theorem ZsR (a b c : Int) (K : DV → Prop) : (ask Tryz.prog [(91, sB val8), (69, sB clk), (119, sUp)] Tryz.f118 [.agg [vi a, vi b, vi c]] K) = (bif val8 a then bif clk b then K (DV.c (D.v (Value.bool (upto c (0) (255))))) else K (DV.c (D.v (Value.bool false))) else K (DV.c (D.v (Value.bool false)))) := by kernel_rfl
theorem eOdd (a b c : Int) (K : DV → Prop) : (ask Tryz.prog [(100, Zex)] Tryz.f99 [.agg [vi a, vi b, vi c]] K) = (K (DV.c (D.v (Value.bool !wmay a b c)))) := by kernel_rfl
theorem ZuA : Zac Tryz.prog 100 Zex := o_of Tryz.func100 (by kernel_rfl) rfl fun ds Q h => by
  unfold Zex at h; split at h
  · refine ⟨_, Zaj (.cons oVal (.cons oClk (.cons oIn .nil))) mixed Tryz.func100 rfl rfl rfl ?_, rfl, rfl, h⟩
    rw [ZuU]; simp only [bifK]; rfl
  · exact h.elim
theorem Zlo : Zac Tryz.prog 118 Zex := o_of Tryz.func118 (by kernel_rfl) rfl fun ds Q h => by
  unfold Zex at h; split at h
  · refine ⟨_, Zaj (.cons Zfz (.cons ZgD (.cons oUp .nil))) mixed Tryz.func118 rfl rfl rfl ?_, rfl, rfl, h⟩
    rw [ZsR]; simp only [bifK]; rfl
  · exact h.elim
theorem oOdd : Zac Tryz.prog 99 sOdd := o_of Tryz.func99 (by kernel_rfl) rfl fun ds Q h => by
  unfold sOdd at h; split at h
  · refine ⟨_, Zaj (.cons ZuA .nil) mixed Tryz.func99 rfl rfl rfl ?_, rfl, rfl, h⟩
    rw [eOdd]
  · exact h.elim
def Zbr (r : List Int) : Bool := wmay (r.getD 0 0) (r.getD 1 0) (r.getD 2 0)
def fx (l : List (List Int)) : Option Nat := l.findIdx? fun r => !Zbr r
def idxF (l : List (List Int)) : Int := match fx l with | some i => (i : Int) | none => -1
def stIx (R sp : List (List D)) (i v : Int) : X := ⟨mkT 19 [(0, aS 3 R sp), (1, .c (.d (.f 99 [] []))), (4, ai v), (7, ai R.length), (8, ai i)], [], [], []⟩
def vIx (R sp : List (List D)) (y : X) : X := stIx R sp (Zci y 8) (Zci y 4)
theorem eIxr (R sp : List (List D)) (i v : Int) (N : X → Prop) (E : Exit → X → Prop) : (ZaJ band bor Tryz.prog [(99, sOdd)] [] Tryz.f151 0 [0, 1, 4, 7, 8] [] (vIx R sp) (vIx R sp) N E (stIx R sp i v)) = (bif decide (i < @Nat.cast Int _ (List.length R)) then bif decide (0 ≤ i) && decide (i < @Nat.cast Int _ (List.length R)) then bif isJ [IntKind.i64, IntKind.i64, IntKind.i64] (List.drop (0) (List.getD R (Int.toNat i) [])) then bif !wmay (hdJ (List.drop (0) (List.getD R (Int.toNat i) []))) (hdJ (List.tail (List.drop (0) (List.getD R (Int.toNat i) [])))) (hdJ (List.tail (List.tail (List.drop (0) (List.getD R (Int.toNat i) []))))) then stIx R sp i i = stIx R sp i i ∧ E Exit.ret (stIx R sp i i) else stIx R sp (IntKind.wrap IntKind.i64 (i + 1)) v = stIx R sp (IntKind.wrap IntKind.i64 (i + 1)) v ∧ N (stIx R sp (IntKind.wrap IntKind.i64 (i + 1)) v) else False else False else stIx R sp i v = stIx R sp i v ∧ E (Exit.exit (0)) (stIx R sp i v)) := by kernel_rfl
def Zri (l : List (List Int)) (sp : List (List D)) : LSum := fun Q x => x.only [0, 1, 4, 7, 8] [] = stIx (mZ l) sp 0 0 ∧ (∀ i : Nat, fx l = some i → Q .ret (stIx (mZ l) sp i i)) ∧ (fx l = none → Q (.exit 0) (stIx (mZ l) sp l.length 0))
theorem eIx (l : List (List Int)) (sp : List (List D)) (K : DV → Prop) : (askL Tryz.prog [] [(2, Zri l sp)] Tryz.f151 [dS 3 (mZ l) sp, .c (.f 99 [] [])] K) = (stIx (mZ l) sp (0) (0) = stIx (mZ l) sp (0) (0) ∧ (∀ (i : Nat), fx l = some i → K (DV.c (D.v (Value.int IntKind.i64 (@Nat.cast Int _ i))))) ∧ (fx l = none → K (DV.c (D.v (Value.int IntKind.i64 (-1)))))) := by kernel_rfl
theorem Zuw {l : List (List Int)} {sp : List (List D)} (hw : wid 3 l) (hn : l.length ≤ 9223372036854775807) (Q : Exit → X → Prop) (x : X) (h : Zri l sp Q x) : XWP Tryz.prog (.loop (Zak Tryz.f151 0)) Q x := by
  obtain ⟨h1, h2, h3⟩ := h
  refine Zaw (ι := Nat) (H := hkA band bor [(99, sOdd)] []) (fn := Tryz.f151) (i := 0) (ts := [0, 1, 4, 7, 8]) (ks := []) (ZaI (.cons oOdd .nil)) mixed (Zae rfl)
    (fun i => stIx (mZ l) sp i 0) (fun i => i ≤ l.length ∧ ∀ j, j < i → Zbr (l.getD j []) = true) (fun i => l.length - i) 0 (vIx (mZ l) sp) (vIx (mZ l) sp) (fun i hp => ?_) ⟨Nat.zero_le _, fun j hj => by omega⟩ h1
  obtain ⟨hi, hj⟩ := hp
  show ZaJ band bor Tryz.prog _ _ Tryz.f151 0 _ _ _ _ _ _ _
  rw [eIxr]
  by_cases hl : i < l.length
  · have wi : IntKind.wrap .i64 ((i : Int) + 1) = ((i + 1 : Nat) : Int) := Zai (n := 1) (by omega)
    have hj1 : isJ [IntKind.i64, IntKind.i64, IntKind.i64] ((mZ l).getD i []) = true := Zap (j := 0) (n := 3) hw hl (by omega)
    simp only [Zag, Int.ofNat_lt, hl, decide_true, cond_true, Int.natCast_nonneg, Bool.and_self, Int.toNat_natCast, ZaK, ZaM, hj1, List.drop_zero, Zay, true_and, wi]
    have e : Zbr (l.getD i []) = wmay ((l.getD i []).getD 0 0) ((l.getD i []).getD 1 0) ((l.getD i []).getD 2 0) := rfl
    rw [← e]
    cases ho : Zbr (l.getD i []) with
    | false =>
      refine h2 i ?_
      rw [fx, List.findIdx?_eq_some_iff_getElem]
      refine ⟨hl, ?_, fun j hji => ?_⟩
      · have : l.getD i [] = l[i] := by simp [List.getD_eq_getElem?_getD, hl]
        rw [this] at ho; simp [ho]
      · have := hj j hji
        have hjl : j < l.length := by omega
        have e2 : l.getD j [] = l[j] := by simp [List.getD_eq_getElem?_getD, hjl]
        rw [e2] at this; simp [this]
    | true =>
      refine ⟨i + 1, by omega, ⟨hl, fun j hji => ?_⟩, rfl⟩
      rcases Nat.lt_succ_iff_lt_or_eq.1 hji with hji | rfl
      · exact hj j hji
      · exact ho
  · have e : i = l.length := by omega
    subst e
    simp only [Zag, Int.ofNat_lt, Nat.lt_irrefl, decide_false, cond_false, true_and]
    refine h3 ?_
    rw [fx, List.findIdx?_eq_none_iff]
    intro x hx
    obtain ⟨j, hj', rfl⟩ := List.mem_iff_getElem.1 hx
    have := hj j hj'
    have e2 : l.getD j [] = l[j] := by simp [List.getD_eq_getElem?_getD, hj']
    rw [e2] at this; simp [this]
def sIx : Spec := fun ds Q => match ds with | [.c (.s 0 3 R sp), .c (.f 99 [] [])] => cond (okZ 3 R) (Q (I (idxF (toZ R)))) False | _ => False
theorem oIx : Zac Tryz.prog 151 sIx := o_of Tryz.func151 (by kernel_rfl) rfl fun ds Q h => by
  unfold sIx at h; split at h
  · rename_i R sp
    obtain ⟨h1, h2⟩ := Zaf h
    obtain ⟨e1, w1, n1⟩ := Zah h1
    rw [e1]
    rw [← Zat R] at n1
    generalize toZ R = l at *
    refine ⟨_, ZaH (l := []) (m := [(2, Zri l sp)]) .nil mixed (Zbo rfl (by kernel_rfl) (Zuw w1 n1)) Tryz.func151 rfl rfl rfl ?_, rfl, rfl, h2⟩
    rw [eIx]
    refine ⟨rfl, fun i hi => ?_, fun hn => ?_⟩
    · simp [idxF, hi]
    · simp [idxF, hn]
  · exact h.elim
def badW (l : List (List Int)) : Bool := l.any fun r => !Zbr r
theorem ZrG (l : List (List Int)) : decide (idxF l ≥ 0) = badW l := by
  unfold idxF
  cases h : fx l with
  | some i =>
    have : badW l = true := by
      rw [fx, List.findIdx?_eq_some_iff_getElem] at h
      obtain ⟨h1, h2, _⟩ := h
      exact List.any_eq_true.2 ⟨_, List.getElem_mem h1, h2⟩
    rw [this]; simp
  | none =>
    have : badW l = false := by
      rw [fx, List.findIdx?_eq_none_iff] at h
      unfold badW
      rw [List.any_eq_false]; intro x hx; simpa using h x hx
    rw [this]; rfl
theorem eCon (R sp : List (List D)) (K : DV → Prop) : (ask Tryz.prog [(151, sIx)] Tryz.f101 [dS 3 R sp, .c (.f 99 [] [])] K) = (bif okZ (3) R then K (DV.c (D.v (Value.bool (decide (idxF (toZ R) ≥ 0))))) else False) := by kernel_rfl
def sCon : Spec := fun ds Q => match ds with | [.c (.s 0 3 R sp), .c (.f 99 [] [])] => cond (okZ 3 R) (Q (B (badW (toZ R)))) False | _ => False
theorem oCon : Zac Tryz.prog 101 sCon := o_of Tryz.func101 (by kernel_rfl) rfl fun ds Q h => by
  unfold sCon at h; split at h
  · obtain ⟨h1, h2⟩ := Zaf h
    refine ⟨_, Zaj (.cons oIx .nil) mixed Tryz.func101 rfl rfl rfl ?_, rfl, rfl, h2⟩
    rw [eCon, h1, ZrG]; rfl
  · exact h.elim
abbrev dA (R0 p0 R1 p1 R2 p2 R3 p3 : List (List D)) : DV := .agg [.s 0 3 R0 p0, .s 0 3 R1 p1, .s 0 3 R2 p2, .s 0 3 R3 p3]
def ZaC (l : List (List Int)) : Bool := !(decide (l.length > 4) || badW l)
def amay (a b c d : List (List Int)) : Bool := ZaC a && (ZaC b && (ZaC c && ZaC d))
theorem Zuj (R0 p0 R1 p1 R2 p2 R3 p3 : List (List D)) (K : DV → Prop) : (ask Tryz.prog [(101, sCon)] Tryz.f60 [dA R0 p0 R1 p1 R2 p2 R3 p3] K) = (bif decide (@Nat.cast Int _ (List.length R0) > 4) then K (DV.c (D.v (Value.bool false))) else bif okZ (3) R0 then bif badW (toZ R0) then K (DV.c (D.v (Value.bool false))) else bif decide (@Nat.cast Int _ (List.length R1) > 4) then K (DV.c (D.v (Value.bool false))) else bif okZ (3) R1 then bif badW (toZ R1) then K (DV.c (D.v (Value.bool false))) else bif decide (@Nat.cast Int _ (List.length R2) > 4) then K (DV.c (D.v (Value.bool false))) else bif okZ (3) R2 then bif badW (toZ R2) then K (DV.c (D.v (Value.bool false))) else bif decide (@Nat.cast Int _ (List.length R3) > 4) then K (DV.c (D.v (Value.bool false))) else bif okZ (3) R3 then bif badW (toZ R3) then K (DV.c (D.v (Value.bool false))) else K (DV.c (D.v (Value.bool true))) else False else False else False else False) := by kernel_rfl
end

section
open Go Go.Proofs
abbrev pA (R0 p0 R1 p1 R2 p2 R3 p3 : List (List D)) : DV := .c (.p 0 [.s 0 3 R0 p0, .s 0 3 R1 p1, .s 0 3 R2 p2, .s 0 3 R3 p3] 0)
def okA (R0 R1 R2 R3 : List (List D)) : Bool := okZ 3 R0 && (okZ 3 R1 && (okZ 3 R2 && okZ 3 R3))
theorem Zcl {R0 R1 R2 R3 : List (List D)} (h : okA R0 R1 R2 R3 = true) : okZ 3 R0 = true ∧ okZ 3 R1 = true ∧ okZ 3 R2 = true ∧ okZ 3 R3 = true := by simpa [okA, Bool.and_eq_true] using h
def ZbX : Spec := fun ds Q => match ds with | [.agg [.s 0 3 R0 p0, .s 0 3 R1 p1, .s 0 3 R2 p2, .s 0 3 R3 p3]] => cond (okA R0 R1 R2 R3) (Q (B (amay (toZ R0) (toZ R1) (toZ R2) (toZ R3)))) False | _ => False
theorem ZmO (R : List (List D)) : ZaC (toZ R) = (!decide ((R.length : Int) > 4) && !badW (toZ R)) := by
  unfold ZaC
  rw [Zat]
  have : decide ((R.length : Int) > 4) = decide (R.length > 4) := by congr 1; exact propext ⟨fun h => by omega, fun h => by omega⟩
  rw [this]; cases decide (R.length > 4) <;> rfl
theorem ZjQ : Zac Tryz.prog 60 ZbX := o_of Tryz.func60 (by kernel_rfl) rfl fun ds Q h => by
  unfold ZbX at h; split at h
  · rename_i R0 p0 R1 p1 R2 p2 R3 p3
    obtain ⟨h1, h2⟩ := Zaf h
    obtain ⟨a0, a1, a2, a3⟩ := Zcl h1
    refine ⟨_, Zaj (.cons oCon .nil) mixed Tryz.func60 rfl rfl rfl ?_, rfl, rfl, h2⟩
    rw [Zuj]
    simp only [a0, a1, a2, a3, cond_true, amay, ZmO]
    cases decide ((R0.length : Int) > 4) <;> cases badW (toZ R0) <;> cases decide ((R1.length : Int) > 4) <;> cases badW (toZ R1) <;> cases decide ((R2.length : Int) > 4) <;> cases badW (toZ R2) <;> cases decide ((R3.length : Int) > 4) <;> cases badW (toZ R3) <;> rfl
  · exact h.elim
def stAM (R0 p0 R1 p1 R2 p2 R3 p3 : List (List D)) (g i : Int) (p : Bool) : X := ⟨mkT 29 [(1, .c (.rp 2 0 4 0 0)), (2, ab p), (3, ai g), (4, ai i)], [(2, .bx 0 4 [.d (.s 0 3 R0 p0), .d (.s 0 3 R1 p1), .d (.s 0 3 R2 p2), .d (.s 0 3 R3 p3)])], [], []⟩
def vAM (R0 p0 R1 p1 R2 p2 R3 p3 : List (List D)) (g : Int) (y : X) : X := stAM R0 p0 R1 p1 R2 p2 R3 p3 g (Zci y 4) (ZjE y 2)
theorem eThr (R0 p0 R1 p1 R2 p2 R3 p3 : List (List D)) (lv num : Int) (K : DV → Prop) : (ask Tryz.prog [(64, sB lab)] Tryz.f157 [pA R0 p0 R1 p1 R2 p2 R3 p3, I lv, I num] K) = (bif lab lv then bif decide (num ≥ 0) then bif decide (lv = 0) then K (DV.c (D.v (Value.bool (decide (num < @Nat.cast Int _ (List.length R0)))))) else bif decide (lv = 1) then K (DV.c (D.v (Value.bool (decide (num < @Nat.cast Int _ (List.length R1)))))) else bif decide (lv = 2) then K (DV.c (D.v (Value.bool (decide (num < @Nat.cast Int _ (List.length R2)))))) else bif decide (lv = 3) then K (DV.c (D.v (Value.bool (decide (num < @Nat.cast Int _ (List.length R3)))))) else False else K (DV.c (D.v (Value.bool false))) else K (DV.c (D.v (Value.bool false)))) := by kernel_rfl
theorem ZuC (R0 p0 R1 p1 R2 p2 R3 p3 : List (List D)) (lv num : Int) (K : DV → Prop) : (ask Tryz.prog [(71, sB lab)] Tryz.f164 [dA R0 p0 R1 p1 R2 p2 R3 p3, I lv, I num] K) = (bif lab lv then bif decide (num ≥ 0) then bif decide (lv = 0) then K (DV.c (D.v (Value.bool (decide (num < @Nat.cast Int _ (List.length R0)))))) else bif decide (lv = 1) then K (DV.c (D.v (Value.bool (decide (num < @Nat.cast Int _ (List.length R1)))))) else bif decide (lv = 2) then K (DV.c (D.v (Value.bool (decide (num < @Nat.cast Int _ (List.length R2)))))) else bif decide (lv = 3) then K (DV.c (D.v (Value.bool (decide (num < @Nat.cast Int _ (List.length R3)))))) else False else K (DV.c (D.v (Value.bool false))) else K (DV.c (D.v (Value.bool false)))) := by kernel_rfl
theorem ZtM (R0 p0 R1 p1 R2 p2 R3 p3 : List (List D)) (i : Int) (p : Bool) (N : X → Prop) (E : Exit → X → Prop) : (ZaJ band bor Tryz.prog [(118, Zex)] [] Tryz.f68 1 [1, 2, 3, 4] [2] (vAM R0 p0 R1 p1 R2 p2 R3 p3 0) (vAM R0 p0 R1 p1 R2 p2 R3 p3 0) N E (stAM R0 p0 R1 p1 R2 p2 R3 p3 0 i p)) = (bif decide (i < @Nat.cast Int _ (List.length R0)) then bif decide (i ≥ 4) then stAM R0 p0 R1 p1 R2 p2 R3 p3 (0) i false = stAM R0 p0 R1 p1 R2 p2 R3 p3 (0) i false ∧ E Exit.ret (stAM R0 p0 R1 p1 R2 p2 R3 p3 (0) i false) else bif decide (0 ≤ i) && decide (i < @Nat.cast Int _ (List.length R0)) then bif isJ [IntKind.i64, IntKind.i64, IntKind.i64] (List.drop (0) (List.getD R0 (Int.toNat i) [])) then bif !wmay (hdJ (List.drop (0) (List.getD R0 (Int.toNat i) []))) (hdJ (List.tail (List.drop (0) (List.getD R0 (Int.toNat i) [])))) (hdJ (List.tail (List.tail (List.drop (0) (List.getD R0 (Int.toNat i) []))))) then stAM R0 p0 R1 p1 R2 p2 R3 p3 (0) i false = stAM R0 p0 R1 p1 R2 p2 R3 p3 (0) i false ∧ E Exit.ret (stAM R0 p0 R1 p1 R2 p2 R3 p3 (0) i false) else stAM R0 p0 R1 p1 R2 p2 R3 p3 (0) (IntKind.wrap IntKind.i64 (i + 1)) p = stAM R0 p0 R1 p1 R2 p2 R3 p3 (0) (IntKind.wrap IntKind.i64 (i + 1)) p ∧ N (stAM R0 p0 R1 p1 R2 p2 R3 p3 (0) (IntKind.wrap IntKind.i64 (i + 1)) p) else False else False else stAM R0 p0 R1 p1 R2 p2 R3 p3 (0) i p = stAM R0 p0 R1 p1 R2 p2 R3 p3 (0) i p ∧ E (Exit.exit (2)) (stAM R0 p0 R1 p1 R2 p2 R3 p3 (0) i p)) := by kernel_rfl
theorem ZtC (R0 p0 R1 p1 R2 p2 R3 p3 : List (List D)) (i : Int) (p : Bool) (N : X → Prop) (E : Exit → X → Prop) : (ZaJ band bor Tryz.prog [(118, Zex)] [] Tryz.f68 1 [1, 2, 3, 4] [2] (vAM R0 p0 R1 p1 R2 p2 R3 p3 1) (vAM R0 p0 R1 p1 R2 p2 R3 p3 1) N E (stAM R0 p0 R1 p1 R2 p2 R3 p3 1 i p)) = (bif decide (i < @Nat.cast Int _ (List.length R1)) then bif decide (i ≥ 4) then stAM R0 p0 R1 p1 R2 p2 R3 p3 (1) i false = stAM R0 p0 R1 p1 R2 p2 R3 p3 (1) i false ∧ E Exit.ret (stAM R0 p0 R1 p1 R2 p2 R3 p3 (1) i false) else bif decide (0 ≤ i) && decide (i < @Nat.cast Int _ (List.length R1)) then bif isJ [IntKind.i64, IntKind.i64, IntKind.i64] (List.drop (0) (List.getD R1 (Int.toNat i) [])) then bif !wmay (hdJ (List.drop (0) (List.getD R1 (Int.toNat i) []))) (hdJ (List.tail (List.drop (0) (List.getD R1 (Int.toNat i) [])))) (hdJ (List.tail (List.tail (List.drop (0) (List.getD R1 (Int.toNat i) []))))) then stAM R0 p0 R1 p1 R2 p2 R3 p3 (1) i false = stAM R0 p0 R1 p1 R2 p2 R3 p3 (1) i false ∧ E Exit.ret (stAM R0 p0 R1 p1 R2 p2 R3 p3 (1) i false) else stAM R0 p0 R1 p1 R2 p2 R3 p3 (1) (IntKind.wrap IntKind.i64 (i + 1)) p = stAM R0 p0 R1 p1 R2 p2 R3 p3 (1) (IntKind.wrap IntKind.i64 (i + 1)) p ∧ N (stAM R0 p0 R1 p1 R2 p2 R3 p3 (1) (IntKind.wrap IntKind.i64 (i + 1)) p) else False else False else stAM R0 p0 R1 p1 R2 p2 R3 p3 (1) i p = stAM R0 p0 R1 p1 R2 p2 R3 p3 (1) i p ∧ E (Exit.exit (2)) (stAM R0 p0 R1 p1 R2 p2 R3 p3 (1) i p)) := by kernel_rfl
theorem Zt8 (R0 p0 R1 p1 R2 p2 R3 p3 : List (List D)) (i : Int) (p : Bool) (N : X → Prop) (E : Exit → X → Prop) : (ZaJ band bor Tryz.prog [(118, Zex)] [] Tryz.f68 1 [1, 2, 3, 4] [2] (vAM R0 p0 R1 p1 R2 p2 R3 p3 2) (vAM R0 p0 R1 p1 R2 p2 R3 p3 2) N E (stAM R0 p0 R1 p1 R2 p2 R3 p3 2 i p)) = (bif decide (i < @Nat.cast Int _ (List.length R2)) then bif decide (i ≥ 4) then stAM R0 p0 R1 p1 R2 p2 R3 p3 (2) i false = stAM R0 p0 R1 p1 R2 p2 R3 p3 (2) i false ∧ E Exit.ret (stAM R0 p0 R1 p1 R2 p2 R3 p3 (2) i false) else bif decide (0 ≤ i) && decide (i < @Nat.cast Int _ (List.length R2)) then bif isJ [IntKind.i64, IntKind.i64, IntKind.i64] (List.drop (0) (List.getD R2 (Int.toNat i) [])) then bif !wmay (hdJ (List.drop (0) (List.getD R2 (Int.toNat i) []))) (hdJ (List.tail (List.drop (0) (List.getD R2 (Int.toNat i) [])))) (hdJ (List.tail (List.tail (List.drop (0) (List.getD R2 (Int.toNat i) []))))) then stAM R0 p0 R1 p1 R2 p2 R3 p3 (2) i false = stAM R0 p0 R1 p1 R2 p2 R3 p3 (2) i false ∧ E Exit.ret (stAM R0 p0 R1 p1 R2 p2 R3 p3 (2) i false) else stAM R0 p0 R1 p1 R2 p2 R3 p3 (2) (IntKind.wrap IntKind.i64 (i + 1)) p = stAM R0 p0 R1 p1 R2 p2 R3 p3 (2) (IntKind.wrap IntKind.i64 (i + 1)) p ∧ N (stAM R0 p0 R1 p1 R2 p2 R3 p3 (2) (IntKind.wrap IntKind.i64 (i + 1)) p) else False else False else stAM R0 p0 R1 p1 R2 p2 R3 p3 (2) i p = stAM R0 p0 R1 p1 R2 p2 R3 p3 (2) i p ∧ E (Exit.exit (2)) (stAM R0 p0 R1 p1 R2 p2 R3 p3 (2) i p)) := by kernel_rfl
theorem ZuF (R0 p0 R1 p1 R2 p2 R3 p3 : List (List D)) (i : Int) (p : Bool) (N : X → Prop) (E : Exit → X → Prop) : (ZaJ band bor Tryz.prog [(118, Zex)] [] Tryz.f68 1 [1, 2, 3, 4] [2] (vAM R0 p0 R1 p1 R2 p2 R3 p3 3) (vAM R0 p0 R1 p1 R2 p2 R3 p3 3) N E (stAM R0 p0 R1 p1 R2 p2 R3 p3 3 i p)) = (bif decide (i < @Nat.cast Int _ (List.length R3)) then bif decide (i ≥ 4) then stAM R0 p0 R1 p1 R2 p2 R3 p3 (3) i false = stAM R0 p0 R1 p1 R2 p2 R3 p3 (3) i false ∧ E Exit.ret (stAM R0 p0 R1 p1 R2 p2 R3 p3 (3) i false) else bif decide (0 ≤ i) && decide (i < @Nat.cast Int _ (List.length R3)) then bif isJ [IntKind.i64, IntKind.i64, IntKind.i64] (List.drop (0) (List.getD R3 (Int.toNat i) [])) then bif !wmay (hdJ (List.drop (0) (List.getD R3 (Int.toNat i) []))) (hdJ (List.tail (List.drop (0) (List.getD R3 (Int.toNat i) [])))) (hdJ (List.tail (List.tail (List.drop (0) (List.getD R3 (Int.toNat i) []))))) then stAM R0 p0 R1 p1 R2 p2 R3 p3 (3) i false = stAM R0 p0 R1 p1 R2 p2 R3 p3 (3) i false ∧ E Exit.ret (stAM R0 p0 R1 p1 R2 p2 R3 p3 (3) i false) else stAM R0 p0 R1 p1 R2 p2 R3 p3 (3) (IntKind.wrap IntKind.i64 (i + 1)) p = stAM R0 p0 R1 p1 R2 p2 R3 p3 (3) (IntKind.wrap IntKind.i64 (i + 1)) p ∧ N (stAM R0 p0 R1 p1 R2 p2 R3 p3 (3) (IntKind.wrap IntKind.i64 (i + 1)) p) else False else False else stAM R0 p0 R1 p1 R2 p2 R3 p3 (3) i p = stAM R0 p0 R1 p1 R2 p2 R3 p3 (3) i p ∧ E (Exit.exit (2)) (stAM R0 p0 R1 p1 R2 p2 R3 p3 (3) i p)) := by kernel_rfl
def sAMg (st : Int → Bool → X) (l : List (List Int)) : LSum := fun Q x => x.only [1, 2, 3, 4] [2] = st 0 false ∧ (ZaC l = false → ∀ i : Int, Q .ret (st i false)) ∧ (ZaC l = true → Q (.exit 2) (st l.length false))
def ZrO (R0 p0 R1 p1 R2 p2 R3 p3 : List (List D)) : LSum := fun Q x => Zn0 x 3 fun g =>
  cond (decide (g = 0)) (sAMg (stAM R0 p0 R1 p1 R2 p2 R3 p3 0) (toZ R0) Q x) (cond (decide (g = 1)) (sAMg (stAM R0 p0 R1 p1 R2 p2 R3 p3 1) (toZ R1) Q x) (cond (decide (g = 2)) (sAMg (stAM R0 p0 R1 p1 R2 p2 R3 p3 2) (toZ R2) Q x) (sAMg (stAM R0 p0 R1 p1 R2 p2 R3 p3 3) (toZ R3) Q x)))
theorem Ztb (R0 p0 R1 p1 R2 p2 R3 p3 : List (List D)) (K : DV → Prop) : (askL Tryz.prog [] [(5, ZrO R0 p0 R1 p1 R2 p2 R3 p3)] Tryz.f68 [dA R0 p0 R1 p1 R2 p2 R3 p3] K) = (stAM R0 p0 R1 p1 R2 p2 R3 p3 (0) (0) false = stAM R0 p0 R1 p1 R2 p2 R3 p3 (0) (0) false ∧ (ZaC (toZ R0) = false → ∀ (i : Int), K (DV.c (D.v (Value.bool false)))) ∧ (ZaC (toZ R0) = true → stAM R0 p0 R1 p1 R2 p2 R3 p3 (1) (0) false = stAM R0 p0 R1 p1 R2 p2 R3 p3 (1) (0) false ∧ (ZaC (toZ R1) = false → ∀ (i : Int), K (DV.c (D.v (Value.bool false)))) ∧ (ZaC (toZ R1) = true → stAM R0 p0 R1 p1 R2 p2 R3 p3 (2) (0) false = stAM R0 p0 R1 p1 R2 p2 R3 p3 (2) (0) false ∧ (ZaC (toZ R2) = false → ∀ (i : Int), K (DV.c (D.v (Value.bool false)))) ∧ (ZaC (toZ R2) = true → stAM R0 p0 R1 p1 R2 p2 R3 p3 (3) (0) false = stAM R0 p0 R1 p1 R2 p2 R3 p3 (3) (0) false ∧ (ZaC (toZ R3) = false → ∀ (i : Int), K (DV.c (D.v (Value.bool false)))) ∧ (ZaC (toZ R3) = true → K (DV.c (D.v (Value.bool true)))))))) := by kernel_rfl
theorem Za3 {l : List (List Int)} {i : Nat} (hi : i < l.length) (h : Zbr (l.getD i []) = false) : ZaC l = false := by
  have e : l.getD i [] = l[i] := by simp [List.getD_eq_getElem?_getD, hi]
  rw [e] at h
  have : badW l = true := List.any_eq_true.2 ⟨_, List.getElem_mem hi, by simp [h]⟩
  simp [ZaC, this]
theorem Zbi {l : List (List Int)} (h : 4 < l.length) : ZaC l = false := by simp [ZaC, h]
theorem Zbz {l : List (List Int)} (h : l.length ≤ 4) (ha : ∀ j, j < l.length → Zbr (l.getD j []) = true) : ZaC l = true := by
  have : badW l = false := by
    unfold badW
    rw [List.any_eq_false]
    intro x hx
    obtain ⟨j, hj', rfl⟩ := List.mem_iff_getElem.1 hx
    have := ha j hj'
    have e2 : l.getD j [] = l[j] := by simp [List.getD_eq_getElem?_getD, hj']
    rw [e2] at this; simp [this]
  have h4 : ¬ l.length > 4 := by omega
  simp [ZaC, this, h4]
theorem ZnD {P : Program} {l : List (FuncId × Spec)} {fn : Func} {k : Nat} {s : LSum} (hn : (Za1 (Zav fn)).length = 2) (hk0 : (hkl l [(k, s)]).loop (Zby (Zak fn 0)) = none) (hk : Zby (Zak fn 1) = k) (h : ∀ Q x, s Q x → XWP P (.loop (Zak fn 1)) Q x) : Zau P (hkl l [(k, s)]) (Zav fn) :=
  ZcK 2 hn fun i hi s' hs Q x hq => by
    match i, hi with
    | 0, _ => rw [hk0] at hs; cases hs
    | 1, _ =>
      rw [hk] at hs
      have hs' : some s = some s' := by simpa [Zc0, hkl, hkA, Zba] using hs
      cases hs'
      exact h Q x hq
theorem Zst {l : List (List Int)} {sp R1 p1 R2 p2 R3 p3 : List (List D)} (hw : wid 3 l) (hn : l.length ≤ 9223372036854775807) (Q : Exit → X → Prop) (x : X) (h : sAMg (stAM (mZ l) sp R1 p1 R2 p2 R3 p3 0) l Q x) : XWP Tryz.prog (.loop (Zak Tryz.f68 1)) Q x := by
  obtain ⟨h1, h2, h3⟩ := h
  refine Zaw (ι := Nat) (H := hkA band bor [(118, Zex)] []) (fn := Tryz.f68) (i := 1) (ts := [1, 2, 3, 4]) (ks := [2]) (ZaI (.cons Zlo .nil)) mixed (Zae rfl)
    (fun i => stAM (mZ l) sp R1 p1 R2 p2 R3 p3 0 i false) (fun i => i ≤ l.length ∧ i ≤ 4 ∧ ∀ j, j < i → Zbr (l.getD j []) = true) (fun i => l.length - i) 0 (vAM (mZ l) sp R1 p1 R2 p2 R3 p3 0) (vAM (mZ l) sp R1 p1 R2 p2 R3 p3 0) (fun i hp => ?_) ⟨Nat.zero_le _, Nat.zero_le _, fun j hj => by omega⟩ h1
  obtain ⟨hi, h4, hj⟩ := hp
  show ZaJ band bor Tryz.prog _ _ Tryz.f68 1 _ _ _ _ _ _ _
  rw [ZtM]
  by_cases hl : i < l.length
  · by_cases h4' : i = 4
    · have e4 : decide ((i : Int) ≥ 4) = true := by simp; omega
      simp only [Zag, Int.ofNat_lt, hl, decide_true, cond_true, e4, true_and]
      exact h2 (Zbi (by omega)) _
    · have e4 : decide ((i : Int) ≥ 4) = false := by simp; omega
      have wi : IntKind.wrap .i64 ((i : Int) + 1) = ((i + 1 : Nat) : Int) := Zai (n := 1) (by omega)
      have hj1 : isJ [IntKind.i64, IntKind.i64, IntKind.i64] ((mZ l).getD i []) = true := Zap (j := 0) (n := 3) hw hl (by omega)
      simp only [Zag, Int.ofNat_lt, hl, decide_true, cond_true, cond_false, e4, Int.natCast_nonneg, Bool.and_self, Int.toNat_natCast, ZaK, ZaM, hj1, List.drop_zero, Zay, true_and, wi]
      have e : Zbr (l.getD i []) = wmay ((l.getD i []).getD 0 0) ((l.getD i []).getD 1 0) ((l.getD i []).getD 2 0) := rfl
      rw [← e]
      cases ho : Zbr (l.getD i []) with
      | false => exact h2 (Za3 hl ho) _
      | true =>
        refine ⟨i + 1, by omega, ⟨hl, by omega, fun j hji => ?_⟩, rfl⟩
        rcases Nat.lt_succ_iff_lt_or_eq.1 hji with hji | rfl
        · exact hj j hji
        · exact ho
  · have e : i = l.length := by omega
    subst e
    simp only [Zag, Int.ofNat_lt, Nat.lt_irrefl, decide_false, cond_false, true_and]
    exact h3 (Zbz h4 hj)
theorem Ztn {l : List (List Int)} {sp R0 p0 R2 p2 R3 p3 : List (List D)} (hw : wid 3 l) (hn : l.length ≤ 9223372036854775807) (Q : Exit → X → Prop) (x : X) (h : sAMg (stAM R0 p0 (mZ l) sp R2 p2 R3 p3 1) l Q x) : XWP Tryz.prog (.loop (Zak Tryz.f68 1)) Q x := by
  obtain ⟨h1, h2, h3⟩ := h
  refine Zaw (ι := Nat) (H := hkA band bor [(118, Zex)] []) (fn := Tryz.f68) (i := 1) (ts := [1, 2, 3, 4]) (ks := [2]) (ZaI (.cons Zlo .nil)) mixed (Zae rfl)
    (fun i => stAM R0 p0 (mZ l) sp R2 p2 R3 p3 1 i false) (fun i => i ≤ l.length ∧ i ≤ 4 ∧ ∀ j, j < i → Zbr (l.getD j []) = true) (fun i => l.length - i) 0 (vAM R0 p0 (mZ l) sp R2 p2 R3 p3 1) (vAM R0 p0 (mZ l) sp R2 p2 R3 p3 1) (fun i hp => ?_) ⟨Nat.zero_le _, Nat.zero_le _, fun j hj => by omega⟩ h1
  obtain ⟨hi, h4, hj⟩ := hp
  show ZaJ band bor Tryz.prog _ _ Tryz.f68 1 _ _ _ _ _ _ _
  rw [ZtC]
  by_cases hl : i < l.length
  · by_cases h4' : i = 4
    · have e4 : decide ((i : Int) ≥ 4) = true := by simp; omega
      simp only [Zag, Int.ofNat_lt, hl, decide_true, cond_true, e4, true_and]
      exact h2 (Zbi (by omega)) _
    · have e4 : decide ((i : Int) ≥ 4) = false := by simp; omega
      have wi : IntKind.wrap .i64 ((i : Int) + 1) = ((i + 1 : Nat) : Int) := Zai (n := 1) (by omega)
      have hj1 : isJ [IntKind.i64, IntKind.i64, IntKind.i64] ((mZ l).getD i []) = true := Zap (j := 0) (n := 3) hw hl (by omega)
      simp only [Zag, Int.ofNat_lt, hl, decide_true, cond_true, cond_false, e4, Int.natCast_nonneg, Bool.and_self, Int.toNat_natCast, ZaK, ZaM, hj1, List.drop_zero, Zay, true_and, wi]
      have e : Zbr (l.getD i []) = wmay ((l.getD i []).getD 0 0) ((l.getD i []).getD 1 0) ((l.getD i []).getD 2 0) := rfl
      rw [← e]
      cases ho : Zbr (l.getD i []) with
      | false => exact h2 (Za3 hl ho) _
      | true =>
        refine ⟨i + 1, by omega, ⟨hl, by omega, fun j hji => ?_⟩, rfl⟩
        rcases Nat.lt_succ_iff_lt_or_eq.1 hji with hji | rfl
        · exact hj j hji
        · exact ho
  · have e : i = l.length := by omega
    subst e
    simp only [Zag, Int.ofNat_lt, Nat.lt_irrefl, decide_false, cond_false, true_and]
    exact h3 (Zbz h4 hj)
theorem Ztl {l : List (List Int)} {sp R0 p0 R1 p1 R3 p3 : List (List D)} (hw : wid 3 l) (hn : l.length ≤ 9223372036854775807) (Q : Exit → X → Prop) (x : X) (h : sAMg (stAM R0 p0 R1 p1 (mZ l) sp R3 p3 2) l Q x) : XWP Tryz.prog (.loop (Zak Tryz.f68 1)) Q x := by
  obtain ⟨h1, h2, h3⟩ := h
  refine Zaw (ι := Nat) (H := hkA band bor [(118, Zex)] []) (fn := Tryz.f68) (i := 1) (ts := [1, 2, 3, 4]) (ks := [2]) (ZaI (.cons Zlo .nil)) mixed (Zae rfl)
    (fun i => stAM R0 p0 R1 p1 (mZ l) sp R3 p3 2 i false) (fun i => i ≤ l.length ∧ i ≤ 4 ∧ ∀ j, j < i → Zbr (l.getD j []) = true) (fun i => l.length - i) 0 (vAM R0 p0 R1 p1 (mZ l) sp R3 p3 2) (vAM R0 p0 R1 p1 (mZ l) sp R3 p3 2) (fun i hp => ?_) ⟨Nat.zero_le _, Nat.zero_le _, fun j hj => by omega⟩ h1
  obtain ⟨hi, h4, hj⟩ := hp
  show ZaJ band bor Tryz.prog _ _ Tryz.f68 1 _ _ _ _ _ _ _
  rw [Zt8]
  by_cases hl : i < l.length
  · by_cases h4' : i = 4
    · have e4 : decide ((i : Int) ≥ 4) = true := by simp; omega
      simp only [Zag, Int.ofNat_lt, hl, decide_true, cond_true, e4, true_and]
      exact h2 (Zbi (by omega)) _
    · have e4 : decide ((i : Int) ≥ 4) = false := by simp; omega
      have wi : IntKind.wrap .i64 ((i : Int) + 1) = ((i + 1 : Nat) : Int) := Zai (n := 1) (by omega)
      have hj1 : isJ [IntKind.i64, IntKind.i64, IntKind.i64] ((mZ l).getD i []) = true := Zap (j := 0) (n := 3) hw hl (by omega)
      simp only [Zag, Int.ofNat_lt, hl, decide_true, cond_true, cond_false, e4, Int.natCast_nonneg, Bool.and_self, Int.toNat_natCast, ZaK, ZaM, hj1, List.drop_zero, Zay, true_and, wi]
      have e : Zbr (l.getD i []) = wmay ((l.getD i []).getD 0 0) ((l.getD i []).getD 1 0) ((l.getD i []).getD 2 0) := rfl
      rw [← e]
      cases ho : Zbr (l.getD i []) with
      | false => exact h2 (Za3 hl ho) _
      | true =>
        refine ⟨i + 1, by omega, ⟨hl, by omega, fun j hji => ?_⟩, rfl⟩
        rcases Nat.lt_succ_iff_lt_or_eq.1 hji with hji | rfl
        · exact hj j hji
        · exact ho
  · have e : i = l.length := by omega
    subst e
    simp only [Zag, Int.ofNat_lt, Nat.lt_irrefl, decide_false, cond_false, true_and]
    exact h3 (Zbz h4 hj)
theorem Zti {l : List (List Int)} {sp R0 p0 R1 p1 R2 p2 : List (List D)} (hw : wid 3 l) (hn : l.length ≤ 9223372036854775807) (Q : Exit → X → Prop) (x : X) (h : sAMg (stAM R0 p0 R1 p1 R2 p2 (mZ l) sp 3) l Q x) : XWP Tryz.prog (.loop (Zak Tryz.f68 1)) Q x := by
  obtain ⟨h1, h2, h3⟩ := h
  refine Zaw (ι := Nat) (H := hkA band bor [(118, Zex)] []) (fn := Tryz.f68) (i := 1) (ts := [1, 2, 3, 4]) (ks := [2]) (ZaI (.cons Zlo .nil)) mixed (Zae rfl)
    (fun i => stAM R0 p0 R1 p1 R2 p2 (mZ l) sp 3 i false) (fun i => i ≤ l.length ∧ i ≤ 4 ∧ ∀ j, j < i → Zbr (l.getD j []) = true) (fun i => l.length - i) 0 (vAM R0 p0 R1 p1 R2 p2 (mZ l) sp 3) (vAM R0 p0 R1 p1 R2 p2 (mZ l) sp 3) (fun i hp => ?_) ⟨Nat.zero_le _, Nat.zero_le _, fun j hj => by omega⟩ h1
  obtain ⟨hi, h4, hj⟩ := hp
  show ZaJ band bor Tryz.prog _ _ Tryz.f68 1 _ _ _ _ _ _ _
  rw [ZuF]
  by_cases hl : i < l.length
  · by_cases h4' : i = 4
    · have e4 : decide ((i : Int) ≥ 4) = true := by simp; omega
      simp only [Zag, Int.ofNat_lt, hl, decide_true, cond_true, e4, true_and]
      exact h2 (Zbi (by omega)) _
    · have e4 : decide ((i : Int) ≥ 4) = false := by simp; omega
      have wi : IntKind.wrap .i64 ((i : Int) + 1) = ((i + 1 : Nat) : Int) := Zai (n := 1) (by omega)
      have hj1 : isJ [IntKind.i64, IntKind.i64, IntKind.i64] ((mZ l).getD i []) = true := Zap (j := 0) (n := 3) hw hl (by omega)
      simp only [Zag, Int.ofNat_lt, hl, decide_true, cond_true, cond_false, e4, Int.natCast_nonneg, Bool.and_self, Int.toNat_natCast, ZaK, ZaM, hj1, List.drop_zero, Zay, true_and, wi]
      have e : Zbr (l.getD i []) = wmay ((l.getD i []).getD 0 0) ((l.getD i []).getD 1 0) ((l.getD i []).getD 2 0) := rfl
      rw [← e]
      cases ho : Zbr (l.getD i []) with
      | false => exact h2 (Za3 hl ho) _
      | true =>
        refine ⟨i + 1, by omega, ⟨hl, by omega, fun j hji => ?_⟩, rfl⟩
        rcases Nat.lt_succ_iff_lt_or_eq.1 hji with hji | rfl
        · exact hj j hji
        · exact ho
  · have e : i = l.length := by omega
    subst e
    simp only [Zag, Int.ofNat_lt, Nat.lt_irrefl, decide_false, cond_false, true_and]
    exact h3 (Zbz h4 hj)
theorem ZpN {R0 p0 R1 p1 R2 p2 R3 p3 : List (List D)} (h0 : okZ 3 R0 = true) (h1 : okZ 3 R1 = true) (h2 : okZ 3 R2 = true) (h3 : okZ 3 R3 = true) (Q : Exit → X → Prop) (x : X) (h : ZrO R0 p0 R1 p1 R2 p2 R3 p3 Q x) : XWP Tryz.prog (.loop (Zak Tryz.f68 1)) Q x := by
  obtain ⟨g, h⟩ := Zet h
  obtain ⟨e0, w0, n0⟩ := Zah h0
  obtain ⟨e1, w1, n1⟩ := Zah h1
  obtain ⟨e2, w2, n2⟩ := Zah h2
  obtain ⟨e3, w3, n3⟩ := Zah h3
  rw [← Zat] at n0 n1 n2 n3
  cases hd : decide (g = 0) with
  | true =>
    rw [hd, cond_true] at h
    exact Zst w0 n0 Q x (by rw [← e0]; exact h)
  | false =>
    rw [hd, cond_false] at h
    cases hd : decide (g = 1) with
    | true =>
      rw [hd, cond_true] at h
      exact Ztn w1 n1 Q x (by rw [← e1]; exact h)
    | false =>
      rw [hd, cond_false] at h
      cases hd : decide (g = 2) with
      | true =>
        rw [hd, cond_true] at h
        exact Ztl w2 n2 Q x (by rw [← e2]; exact h)
      | false =>
        rw [hd, cond_false] at h
        exact Zti w3 n3 Q x (by rw [← e3]; exact h)
theorem ZfY : Zac Tryz.prog 68 ZbX := o_of Tryz.func68 (by kernel_rfl) rfl fun ds Q h => by
  unfold ZbX at h; split at h
  · rename_i R0 p0 R1 p1 R2 p2 R3 p3
    obtain ⟨h1, h2⟩ := Zaf h
    obtain ⟨a0, a1, a2, a3⟩ := Zcl h1
    refine ⟨_, ZaH (l := []) (m := [(5, ZrO R0 p0 R1 p1 R2 p2 R3 p3)]) .nil mixed (ZnD rfl (by kernel_rfl) (by kernel_rfl) (ZpN a0 a1 a2 a3)) Tryz.func68 rfl rfl rfl ?_, rfl, rfl, h2⟩
    rw [Ztb]
    have key : ∀ p q : Bool, (p && q) = true → p = true := fun p q h => by simp at h; exact h.1
    simp only [amay, true_and]
    refine ⟨fun h _ => by rw [h]; rfl, fun h => ?_⟩
    rw [h]
    refine ⟨fun h _ => by rw [h]; rfl, fun h => ?_⟩
    rw [h]
    refine ⟨fun h _ => by rw [h]; rfl, fun h => ?_⟩
    rw [h]
    refine ⟨fun h _ => by rw [h]; rfl, fun h => ?_⟩
    rw [h]
    rfl
  · exact h.elim
def thr (n0 n1 n2 n3 : Nat) (lv num : Int) : Bool := bif lab lv then bif decide (num ≥ 0) then bif decide (lv = 0) then decide (num < (n0 : Int)) else bif decide (lv = 1) then decide (num < (n1 : Int)) else bif decide (lv = 2) then decide (num < (n2 : Int)) else decide (num < (n3 : Int)) else false else false
def sThr : Spec := fun ds Q => match ds with | [.c (.p 0 [.s 0 3 R0 p0, .s 0 3 R1 p1, .s 0 3 R2 p2, .s 0 3 R3 p3] 0), .c (.v (.int .i64 lv)), .c (.v (.int .i64 num))] => Q (B (thr R0.length R1.length R2.length R3.length lv num)) | _ => False
def ZeH : Spec := fun ds Q => match ds with | [.agg [.s 0 3 R0 p0, .s 0 3 R1 p1, .s 0 3 R2 p2, .s 0 3 R3 p3], .c (.v (.int .i64 lv)), .c (.v (.int .i64 num))] => Q (B (thr R0.length R1.length R2.length R3.length lv num)) | _ => False
theorem Zln (n0 n1 n2 n3 : Nat) (lv num : Int) (K : DV → Prop) (h : K (B (thr n0 n1 n2 n3 lv num))) : bif lab lv then bif decide (num ≥ 0) then bif decide (lv = 0) then K (B (decide (num < (n0 : Int)))) else bif decide (lv = 1) then K (B (decide (num < (n1 : Int)))) else bif decide (lv = 2) then K (B (decide (num < (n2 : Int)))) else bif decide (lv = 3) then K (B (decide (num < (n3 : Int)))) else False else K (B false) else K (B false) := by
  unfold thr at h
  cases hl : lab lv with
  | false => rw [hl] at h; exact h
  | true =>
    rw [hl] at h
    have : decide (lv = 0) = false → decide (lv = 1) = false → decide (lv = 2) = false → decide (lv = 3) = true := fun h0 h1 h2 => by
      rcases Zi9 hl with rfl | rfl | rfl | rfl <;> simp_all
    cases hn : decide (num ≥ 0) <;> rw [hn] at h <;> simp only [cond_true, cond_false] at h ⊢
    · exact h
    · cases h0 : decide (lv = 0) <;> rw [h0] at h <;> simp only [cond_true, cond_false] at h ⊢
      · cases h1 : decide (lv = 1) <;> rw [h1] at h <;> simp only [cond_true, cond_false] at h ⊢
        · cases h2 : decide (lv = 2) <;> rw [h2] at h <;> simp only [cond_true, cond_false] at h ⊢
          · rw [this h0 h1 h2]; exact h
          · exact h
        · exact h
      · exact h
theorem oThr : Zac Tryz.prog 157 sThr := o_of Tryz.func157 (by kernel_rfl) rfl fun ds Q h => by
  unfold sThr at h; split at h
  · refine ⟨_, Zaj (.cons oLab .nil) mixed Tryz.func157 rfl rfl rfl ?_, rfl, rfl, h⟩
    rw [eThr]
    exact Zln _ _ _ _ _ _ (fun r => r = _) rfl
  · exact h.elim
theorem ZjM : Zac Tryz.prog 164 ZeH := o_of Tryz.func164 (by kernel_rfl) rfl fun ds Q h => by
  unfold ZeH at h; split at h
  · refine ⟨_, Zaj (.cons Zmi .nil) mixed Tryz.func164 rfl rfl rfl ?_, rfl, rfl, h⟩
    rw [ZuC]
    exact Zln _ _ _ _ _ _ (fun r => r = _) rfl
  · exact h.elim
end

section
open Go Go.Proofs
def selA {α : Type} (lv : Int) (a b c d : α) : α := bif decide (lv = 0) then a else bif decide (lv = 1) then b else bif decide (lv = 2) then c else d
def wrd (l : List (List Int)) (num : Int) : List Int := l.getD num.toNat []
def dW (r : List Int) : DV := .agg [vi (r.getD 0 0), vi (r.getD 1 0), vi (r.getD 2 0)]
abbrev dNil : DV := .agg [nilD, nilD, nilD, nilD]
abbrev dO (R0 R1 R2 R3 : List (List D)) : DV := .agg [.s 1 3 R0 [], .s 1 3 R1 [], .s 1 3 R2 [], .s 1 3 R3 []]
def gotA (a b c d : List (List Int)) (lv num : Int) (Q : DV → Prop) : Prop := cond (amay a b c d) (cond (thr a.length b.length c.length d.length lv num) (Q (.tup [dW (wrd (selA lv a b c d) num), I 0])) (Q (.tup [.agg [vi 0, vi 0, vi 0], I 400]))) (Q (.tup [.agg [vi 0, vi 0, vi 0], I 400]))
def sGet : Spec := fun ds Q => match ds with | [.agg [.s 0 3 R0 p0, .s 0 3 R1 p1, .s 0 3 R2 p2, .s 0 3 R3 p3], .c (.v (.int .i64 lv)), .c (.v (.int .i64 num))] => cond (okA R0 R1 R2 R3) (gotA (toZ R0) (toZ R1) (toZ R2) (toZ R3) lv num Q) False | _ => False
def okC (R : List (List D)) : Bool := allV R && decide (R.length ≤ 5864062014635)
def okC4 (R0 R1 R2 R3 : List (List D)) : Bool := okC R0 && (okC R1 && (okC R2 && okC R3))
theorem ZiB {R0 R1 R2 R3 : List (List D)} (h : okC4 R0 R1 R2 R3 = true) : (allV R0 = true ∧ R0.length ≤ 5864062014635) ∧ (allV R1 = true ∧ R1.length ≤ 5864062014635) ∧ (allV R2 = true ∧ R2.length ≤ 5864062014635) ∧ (allV R3 = true ∧ R3.length ≤ 5864062014635) := by
  simpa [okC4, okC, Bool.and_eq_true] using h
def Zcm : Spec := fun ds Q => match ds with | [.agg [.s 0 3 R0 p0, .s 0 3 R1 p1, .s 0 3 R2 p2, .s 0 3 R3 p3]] => cond (okC4 R0 R1 R2 R3) (Q (dO R0 R1 R2 R3)) False | _ => False
theorem ZsU (R0 p0 R1 p1 R2 p2 R3 p3 : List (List D)) (K : DV → Prop) : (ask Tryz.prog [(148, ZdM)] Tryz.f93 [dA R0 p0 R1 p1 R2 p2 R3 p3] K) = (bif allV R0 && decide (List.length R0 ≤ 5864062014635) then bif allV R1 && decide (List.length R1 ≤ 5864062014635) then bif allV R2 && decide (List.length R2 ≤ 5864062014635) then bif allV R3 && decide (List.length R3 ≤ 5864062014635) then bif decide (List.length R0 ≤ List.length (R0 ++ [])) && List.all (R0 ++ []) fun r => List.all r D.keeps then bif decide (List.length R1 ≤ List.length (R1 ++ [])) && List.all (R1 ++ []) fun r => List.all r D.keeps then bif decide (List.length R2 ≤ List.length (R2 ++ [])) && List.all (R2 ++ []) fun r => List.all r D.keeps then bif decide (List.length R3 ≤ List.length (R3 ++ [])) && List.all (R3 ++ []) fun r => List.all r D.keeps then K (DV.agg [D.s (1) (3) (List.take (List.length R0) (R0 ++ [])) (List.take (List.length R0 + 0 - List.length R0) (List.drop (List.length R0) (R0 ++ []))), D.s (1) (3) (List.take (List.length R1) (R1 ++ [])) (List.take (List.length R1 + 0 - List.length R1) (List.drop (List.length R1) (R1 ++ []))), D.s (1) (3) (List.take (List.length R2) (R2 ++ [])) (List.take (List.length R2 + 0 - List.length R2) (List.drop (List.length R2) (R2 ++ []))), D.s (1) (3) (List.take (List.length R3) (R3 ++ [])) (List.take (List.length R3 + 0 - List.length R3) (List.drop (List.length R3) (R3 ++ [])))]) else False else False else False else False else False else False else False else False) := by kernel_rfl
theorem Zsb (R0 p0 R1 p1 R2 p2 R3 p3 : List (List D)) (K : DV → Prop) : (ask Tryz.prog [] Tryz.f97 [dA R0 p0 R1 p1 R2 p2 R3 p3] K) = (bif allV R0 then bif true && (decide ((0 + List.length R0) * 24 ≤ 140737488355328) && decide (0 + List.length R0 ≤ 9223372036854775807)) then bif allV R1 then bif true && (decide ((0 + List.length R1) * 24 ≤ 140737488355328) && decide (0 + List.length R1 ≤ 9223372036854775807)) then bif allV R2 then bif true && (decide ((0 + List.length R2) * 24 ≤ 140737488355328) && decide (0 + List.length R2 ≤ 9223372036854775807)) then bif allV R3 then bif true && (decide ((0 + List.length R3) * 24 ≤ 140737488355328) && decide (0 + List.length R3 ≤ 9223372036854775807)) then bif decide (0 + List.length R0 ≤ List.length ([] ++ R0)) && List.all ([] ++ R0) fun r => List.all r D.keeps then bif decide (0 + List.length R1 ≤ List.length ([] ++ R1)) && List.all ([] ++ R1) fun r => List.all r D.keeps then bif decide (0 + List.length R2 ≤ List.length ([] ++ R2)) && List.all ([] ++ R2) fun r => List.all r D.keeps then bif decide (0 + List.length R3 ≤ List.length ([] ++ R3)) && List.all ([] ++ R3) fun r => List.all r D.keeps then K (DV.agg [D.s (1) (3) (List.take (0 + List.length R0) ([] ++ R0)) (List.take (0 + List.length R0 - (0 + List.length R0)) (List.drop (0 + List.length R0) ([] ++ R0))), D.s (1) (3) (List.take (0 + List.length R1) ([] ++ R1)) (List.take (0 + List.length R1 - (0 + List.length R1)) (List.drop (0 + List.length R1) ([] ++ R1))), D.s (1) (3) (List.take (0 + List.length R2) ([] ++ R2)) (List.take (0 + List.length R2 - (0 + List.length R2)) (List.drop (0 + List.length R2) ([] ++ R2))), D.s (1) (3) (List.take (0 + List.length R3) ([] ++ R3)) (List.take (0 + List.length R3 - (0 + List.length R3)) (List.drop (0 + List.length R3) ([] ++ R3)))]) else False else False else False else False else False else False else False else False else False else False else False else False) := by kernel_rfl
theorem ZrT {R0 R1 R2 R3 : List (List D)} (h0 : allV R0 = true) (h1 : allV R1 = true) (h2 : allV R2 = true) (h3 : allV R3 = true) : (dO R0 R1 R2 R3).pureOwn = true := by
  simp [DV.pureOwn, DV.pureOwn.go, DV.pure1, D.pureOwn, ownL, ZaO h0, ZaO h1, ZaO h2, ZaO h3, Zd8]
theorem ZiP : Zac Tryz.prog 93 Zcm := o_of Tryz.func93 (by kernel_rfl) rfl fun ds Q h => by
  unfold Zcm at h; split at h
  · rename_i R0 p0 R1 p1 R2 p2 R3 p3
    obtain ⟨h1, h2⟩ := Zaf h
    obtain ⟨⟨a0, l0⟩, ⟨a1, l1⟩, ⟨a2, l2⟩, ⟨a3, l3⟩⟩ := ZiB h1
    refine ⟨_, Zaj (.cons ZkC .nil) mixed Tryz.func93 rfl rfl rfl ?_, ZrT a0 a1 a2 a3, rfl, h2⟩
    rw [ZsU]
    have g0 : R0.length * 24 ≤ 140737488355328 := by omega
    have g1 : R1.length * 24 ≤ 140737488355328 := by omega
    have g2 : R2.length * 24 ≤ 140737488355328 := by omega
    have g3 : R3.length * 24 ≤ 140737488355328 := by omega
    have k0 : R0.length ≤ 9223372036854775807 := by omega
    have k1 : R1.length ≤ 9223372036854775807 := by omega
    have k2 : R2.length ≤ 9223372036854775807 := by omega
    have k3 : R3.length ≤ 9223372036854775807 := by omega
    simp only [a0, a1, a2, a3, l0, l1, l2, l3, g0, g1, g2, g3, k0, k1, k2, k3, ZaE a0, ZaE a1, ZaE a2, ZaE a3, Nat.zero_add, Nat.add_zero, List.nil_append, List.append_nil, decide_true, Bool.and_self, Bool.true_and, cond_true, Nat.le_refl, List.take_length, List.drop_length, Nat.sub_self, List.take_nil, List.take_zero]
  · exact h.elim
theorem ZiY : Zac Tryz.prog 97 Zcm := o_of Tryz.func97 (by kernel_rfl) rfl fun ds Q h => by
  unfold Zcm at h; split at h
  · rename_i R0 p0 R1 p1 R2 p2 R3 p3
    obtain ⟨h1, h2⟩ := Zaf h
    obtain ⟨⟨a0, l0⟩, ⟨a1, l1⟩, ⟨a2, l2⟩, ⟨a3, l3⟩⟩ := ZiB h1
    refine ⟨_, Zaj (.nil) mixed Tryz.func97 rfl rfl rfl ?_, ZrT a0 a1 a2 a3, rfl, h2⟩
    rw [Zsb]
    have g0 : R0.length * 24 ≤ 140737488355328 := by omega
    have g1 : R1.length * 24 ≤ 140737488355328 := by omega
    have g2 : R2.length * 24 ≤ 140737488355328 := by omega
    have g3 : R3.length * 24 ≤ 140737488355328 := by omega
    have k0 : R0.length ≤ 9223372036854775807 := by omega
    have k1 : R1.length ≤ 9223372036854775807 := by omega
    have k2 : R2.length ≤ 9223372036854775807 := by omega
    have k3 : R3.length ≤ 9223372036854775807 := by omega
    simp only [a0, a1, a2, a3, l0, l1, l2, l3, g0, g1, g2, g3, k0, k1, k2, k3, ZaE a0, ZaE a1, ZaE a2, ZaE a3, Nat.zero_add, Nat.add_zero, List.nil_append, List.append_nil, decide_true, Bool.and_self, Bool.true_and, cond_true, Nat.le_refl, List.take_length, List.drop_length, Nat.sub_self, List.take_nil, List.take_zero]
  · exact h.elim
def w3 (a b c : Int) : List D := [vi a, vi b, vi c]
theorem ZlM {R0 R1 R2 R3 : List (List D)} (h0 : okZ 3 R0 = true) (h1 : okZ 3 R1 = true) (h2 : okZ 3 R2 = true) (h3 : okZ 3 R3 = true) (n : Int) : (DV.tup [dO R0 R1 R2 R3, I n]).pureOwn = true := by
  have := ZrT (ZaR h0) (ZaR h1) (ZaR h2) (ZaR h3)
  simp [DV.pureOwn, DV.pureOwn.go, DV.pure1, D.pureOwn, ownL, ZaO (ZaR h0), ZaO (ZaR h1), ZaO (ZaR h2), ZaO (ZaR h3), Zd8]
end

section
open Go Go.Proofs
def mL (l : List (List Int)) : List (List Int) := l.map fun r => [r.getD 0 0, 0, 0]
def mW (R : List (List D)) : List (List D) := mZ (mL (toZ R))
abbrev dV (R0 p0 R1 p1 R2 p2 R3 p3 : List (List D)) : DV := .agg [.s 0 1 R0 p0, .s 0 1 R1 p1, .s 0 1 R2 p2, .s 0 1 R3 p3]
def boxL (y : X) (k j : Nat) : Nat := match (rowOf y k).getD j .non with | .rs _ _ _ _ len _ => len | _ => 0
def stP0 (R0 p0 R1 p1 R2 p2 R3 p3 : List (List D)) (i : Int) : X := ⟨mkT 36 [(2, .c (.rp 3 0 4 0 0)), (3, ai 0), (4, .c (.rp 5 0 4 0 0)), (5, ai 0), (9, .agg [.d (.s 0 1 R0 p0), .d (.s 0 1 R1 p1), .d (.s 0 1 R2 p2), .d (.s 0 1 R3 p3)]), (10, ai 0), (14, aS 1 R0 p0), (15, ai R0.length), (16, ai i)], [(3, .bx 0 4 [.d nilD, .d nilD, .d nilD, .d nilD]), (5, .bx 0 4 [.d nilD, .d nilD, .d nilD, .d nilD])], [], []⟩
def stN0 (R0 p0 R1 p1 R2 p2 R3 p3 : List (List D)) (W : List (List D)) (m : Nat) (i : Int) : X := ⟨mkT 36 [(2, .c (.rp 3 0 4 0 0)), (3, ai 0), (4, .c (.rp 5 0 4 0 0)), (5, ai 0), (9, .agg [.d (.s 0 1 R0 p0), .d (.s 0 1 R1 p1), .d (.s 0 1 R2 p2), .d (.s 0 1 R3 p3)]), (10, ai 0), (14, aS 1 R0 p0), (15, ai R0.length), (16, ai i)], [(3, .bx 0 4 [.d nilD, .d nilD, .d nilD, .d nilD]), (5, .bx 0 4 [.rs 2000000 0 3 0 m m, .d nilD, .d nilD, .d nilD]), (2000000, .sl 0 3 W)], [], []⟩
def vN0 (R0 p0 R1 p1 R2 p2 R3 p3 : List (List D)) (y : X) : X := stN0 R0 p0 R1 p1 R2 p2 R3 p3 (Zip y 2000000) (boxL y 5 0) (Zci y 16)
theorem eN0r (R0 p0 R1 p1 R2 p2 R3 p3 : List (List D)) (W : List (List D)) (m : Nat) (i : Int) (N : X → Prop) (E : Exit → X → Prop) : (ZaJ band bor Tryz.prog [] [] Tryz.f48 1 [2, 3, 4, 5, 9, 10, 14, 15, 16] [3, 5, 2000000] (vN0 R0 p0 R1 p1 R2 p2 R3 p3) (vN0 R0 p0 R1 p1 R2 p2 R3 p3) N E (stN0 R0 p0 R1 p1 R2 p2 R3 p3 W m i)) = (bif decide (i < @Nat.cast Int _ (List.length R0)) then bif decide (0 ≤ i) && decide (i < @Nat.cast Int _ (List.length R0)) then bif isJ [IntKind.i64] (List.drop (0) (List.getD R0 (Int.toNat i) [])) then bif decide (m ≤ List.length W) && (decide ((m + 1) * 24 ≤ 140737488355328) && decide (m + 1 ≤ 9223372036854775807)) then stN0 R0 p0 R1 p1 R2 p2 R3 p3 (List.take m W ++ [[D.v (Value.int IntKind.i64 (hdJ (List.drop (0) (List.getD R0 (Int.toNat i) [])))), D.v (Value.int IntKind.i64 (0)), D.v (Value.int IntKind.i64 (0))]]) (Nat.succ m) (IntKind.wrap IntKind.i64 (i + 1)) = stN0 R0 p0 R1 p1 R2 p2 R3 p3 (List.take m W ++ [[D.v (Value.int IntKind.i64 (hdJ (List.drop (0) (List.getD R0 (Int.toNat i) [])))), D.v (Value.int IntKind.i64 (0)), D.v (Value.int IntKind.i64 (0))]]) (Nat.succ m) (IntKind.wrap IntKind.i64 (i + 1)) ∧ N (stN0 R0 p0 R1 p1 R2 p2 R3 p3 (List.take m W ++ [[D.v (Value.int IntKind.i64 (hdJ (List.drop (0) (List.getD R0 (Int.toNat i) [])))), D.v (Value.int IntKind.i64 (0)), D.v (Value.int IntKind.i64 (0))]]) (Nat.succ m) (IntKind.wrap IntKind.i64 (i + 1))) else False else False else False else stN0 R0 p0 R1 p1 R2 p2 R3 p3 W m i = stN0 R0 p0 R1 p1 R2 p2 R3 p3 W m i ∧ E (Exit.exit (2)) (stN0 R0 p0 R1 p1 R2 p2 R3 p3 W m i)) := by kernel_rfl
def sN0 (R0 p0 R1 p1 R2 p2 R3 p3 : List (List D)) : LSum := fun Q x => x.only [2, 3, 4, 5, 9, 10, 14, 15, 16] [3, 5, 2000000] = stP0 R0 p0 R1 p1 R2 p2 R3 p3 0 ∧ Q (.exit 2) (stN0 R0 p0 R1 p1 R2 p2 R3 p3 (mW R0) R0.length R0.length)
def stQ0 (R0 p0 R1 p1 R2 p2 R3 p3 : List (List D)) (e i : Int) : X := ⟨mkT 47 [(1, .c (.rp 2 0 4 0 0)), (2, .c (.rp 3 0 4 0 0)), (3, ai e), (4, .c (.rp 5 0 4 0 0)), (5, ai 0), (6, ai i)], [(2, .bx 0 4 [.d (.s 0 1 R0 p0), .d (.s 0 1 R1 p1), .d (.s 0 1 R2 p2), .d (.s 0 1 R3 p3)]), (3, .bx 0 4 [.d nilD, .d nilD, .d nilD, .d nilD]), (5, .bx 0 4 [.d nilD, .d nilD, .d nilD, .d nilD])], [], []⟩
def stM0 (R0 p0 R1 p1 R2 p2 R3 p3 : List (List D)) (W : List (List D)) (m : Nat) (e i : Int) : X := ⟨mkT 47 [(1, .c (.rp 2 0 4 0 0)), (2, .c (.rp 3 0 4 0 0)), (3, ai e), (4, .c (.rp 5 0 4 0 0)), (5, ai 0), (6, ai i)], [(2, .bx 0 4 [.d (.s 0 1 R0 p0), .d (.s 0 1 R1 p1), .d (.s 0 1 R2 p2), .d (.s 0 1 R3 p3)]), (3, .bx 0 4 [.d nilD, .d nilD, .d nilD, .d nilD]), (5, .bx 0 4 [.rs 2000000 0 3 0 m m, .d nilD, .d nilD, .d nilD]), (2000000, .sl 0 3 W)], [], []⟩
def vM0 (R0 p0 R1 p1 R2 p2 R3 p3 : List (List D)) (y : X) : X := stM0 R0 p0 R1 p1 R2 p2 R3 p3 (Zip y 2000000) (boxL y 5 0) (Zci y 3) (Zci y 6)
theorem eM0r (R0 p0 R1 p1 R2 p2 R3 p3 : List (List D)) (W : List (List D)) (m : Nat) (e i : Int) (N : X → Prop) (E : Exit → X → Prop) : (ZaJ band bor Tryz.prog [(91, sB val8)] [] Tryz.f50 1 [1, 2, 3, 4, 5, 6] [2, 3, 5, 2000000] (vM0 R0 p0 R1 p1 R2 p2 R3 p3) (vM0 R0 p0 R1 p1 R2 p2 R3 p3) N E (stM0 R0 p0 R1 p1 R2 p2 R3 p3 W m e i)) = (bif decide (i < @Nat.cast Int _ (List.length R0)) then bif decide (i ≥ 4) then stM0 R0 p0 R1 p1 R2 p2 R3 p3 W m (400) i = stM0 R0 p0 R1 p1 R2 p2 R3 p3 W m (400) i ∧ E Exit.ret (stM0 R0 p0 R1 p1 R2 p2 R3 p3 W m (400) i) else bif decide (0 ≤ i) && decide (i < @Nat.cast Int _ (List.length R0)) then bif isJ [IntKind.i64] (List.drop (0) (List.getD R0 (Int.toNat i) [])) then bif !(decide (hdJ (List.drop (0) (List.getD R0 (Int.toNat i) [])) ≥ 0) && decide (hdJ (List.drop (0) (List.getD R0 (Int.toNat i) [])) ≤ 255)) then stM0 R0 p0 R1 p1 R2 p2 R3 p3 W m (400) i = stM0 R0 p0 R1 p1 R2 p2 R3 p3 W m (400) i ∧ E Exit.ret (stM0 R0 p0 R1 p1 R2 p2 R3 p3 W m (400) i) else bif decide (0 ≤ i) && decide (i < @Nat.cast Int _ (List.length R0)) then bif isJ [IntKind.i64] (List.drop (0) (List.getD R0 (Int.toNat i) [])) then bif decide (m ≤ List.length W) && (decide ((m + 1) * 24 ≤ 140737488355328) && decide (m + 1 ≤ 9223372036854775807)) then stM0 R0 p0 R1 p1 R2 p2 R3 p3 (List.take m W ++ [[D.v (Value.int IntKind.i64 (hdJ (List.drop (0) (List.getD R0 (Int.toNat i) [])))), D.v (Value.int IntKind.i64 (0)), D.v (Value.int IntKind.i64 (0))]]) (Nat.succ m) e (IntKind.wrap IntKind.i64 (i + 1)) = stM0 R0 p0 R1 p1 R2 p2 R3 p3 (List.take m W ++ [[D.v (Value.int IntKind.i64 (hdJ (List.drop (0) (List.getD R0 (Int.toNat i) [])))), D.v (Value.int IntKind.i64 (0)), D.v (Value.int IntKind.i64 (0))]]) (Nat.succ m) e (IntKind.wrap IntKind.i64 (i + 1)) ∧ N (stM0 R0 p0 R1 p1 R2 p2 R3 p3 (List.take m W ++ [[D.v (Value.int IntKind.i64 (hdJ (List.drop (0) (List.getD R0 (Int.toNat i) [])))), D.v (Value.int IntKind.i64 (0)), D.v (Value.int IntKind.i64 (0))]]) (Nat.succ m) e (IntKind.wrap IntKind.i64 (i + 1))) else False else False else False else False else False else stM0 R0 p0 R1 p1 R2 p2 R3 p3 W m e i = stM0 R0 p0 R1 p1 R2 p2 R3 p3 W m e i ∧ E (Exit.exit (2)) (stM0 R0 p0 R1 p1 R2 p2 R3 p3 W m e i)) := by kernel_rfl
def sM0 (R0 p0 R1 p1 R2 p2 R3 p3 : List (List D)) : LSum := fun Q x => x.only [1, 2, 3, 4, 5, 6] [2, 3, 5, 2000000] = stQ0 R0 p0 R1 p1 R2 p2 R3 p3 0 0 ∧ (ZaC (toZ (mW R0)) = false → ∀ (W : List (List D)) (m : Nat) (i : Int), Q .ret (stM0 R0 p0 R1 p1 R2 p2 R3 p3 W m 400 i)) ∧ (ZaC (toZ (mW R0)) = true → Q (.exit 2) (stM0 R0 p0 R1 p1 R2 p2 R3 p3 (mW R0) R0.length 0 R0.length))
def stP1 (R0 p0 R1 p1 R2 p2 R3 p3 : List (List D)) (i : Int) : X := ⟨mkT 36 [(2, .c (.rp 3 0 4 0 0)), (3, ai 0), (4, .c (.rp 5 0 4 0 0)), (5, ai 1), (9, .agg [.d (.s 0 1 R0 p0), .d (.s 0 1 R1 p1), .d (.s 0 1 R2 p2), .d (.s 0 1 R3 p3)]), (10, ai 1), (14, aS 1 R1 p1), (15, ai R1.length), (16, ai i)], [(3, .bx 0 4 [.d nilD, .d nilD, .d nilD, .d nilD]), (5, .bx 0 4 [.rs 2000000 0 3 0 R0.length R0.length, .d nilD, .d nilD, .d nilD]), (2000000, .sl 0 3 (mW R0))], [], []⟩
def stN1 (R0 p0 R1 p1 R2 p2 R3 p3 : List (List D)) (W : List (List D)) (m : Nat) (i : Int) : X := ⟨mkT 36 [(2, .c (.rp 3 0 4 0 0)), (3, ai 0), (4, .c (.rp 5 0 4 0 0)), (5, ai 1), (9, .agg [.d (.s 0 1 R0 p0), .d (.s 0 1 R1 p1), .d (.s 0 1 R2 p2), .d (.s 0 1 R3 p3)]), (10, ai 1), (14, aS 1 R1 p1), (15, ai R1.length), (16, ai i)], [(3, .bx 0 4 [.d nilD, .d nilD, .d nilD, .d nilD]), (5, .bx 0 4 [.rs 2000000 0 3 0 R0.length R0.length, .rs 2000001 0 3 0 m m, .d nilD, .d nilD]), (2000000, .sl 0 3 (mW R0)), (2000001, .sl 0 3 W)], [], []⟩
def vN1 (R0 p0 R1 p1 R2 p2 R3 p3 : List (List D)) (y : X) : X := stN1 R0 p0 R1 p1 R2 p2 R3 p3 (Zip y 2000001) (boxL y 5 1) (Zci y 16)
theorem eN1r (R0 p0 R1 p1 R2 p2 R3 p3 : List (List D)) (W : List (List D)) (m : Nat) (i : Int) (N : X → Prop) (E : Exit → X → Prop) : (ZaJ band bor Tryz.prog [] [] Tryz.f48 1 [2, 3, 4, 5, 9, 10, 14, 15, 16] [3, 5, 2000000, 2000001] (vN1 R0 p0 R1 p1 R2 p2 R3 p3) (vN1 R0 p0 R1 p1 R2 p2 R3 p3) N E (stN1 R0 p0 R1 p1 R2 p2 R3 p3 W m i)) = (bif decide (i < @Nat.cast Int _ (List.length R1)) then bif decide (0 ≤ i) && decide (i < @Nat.cast Int _ (List.length R1)) then bif isJ [IntKind.i64] (List.drop (0) (List.getD R1 (Int.toNat i) [])) then bif decide (m ≤ List.length W) && (decide ((m + 1) * 24 ≤ 140737488355328) && decide (m + 1 ≤ 9223372036854775807)) then stN1 R0 p0 R1 p1 R2 p2 R3 p3 (List.take m W ++ [[D.v (Value.int IntKind.i64 (hdJ (List.drop (0) (List.getD R1 (Int.toNat i) [])))), D.v (Value.int IntKind.i64 (0)), D.v (Value.int IntKind.i64 (0))]]) (Nat.succ m) (IntKind.wrap IntKind.i64 (i + 1)) = stN1 R0 p0 R1 p1 R2 p2 R3 p3 (List.take m W ++ [[D.v (Value.int IntKind.i64 (hdJ (List.drop (0) (List.getD R1 (Int.toNat i) [])))), D.v (Value.int IntKind.i64 (0)), D.v (Value.int IntKind.i64 (0))]]) (Nat.succ m) (IntKind.wrap IntKind.i64 (i + 1)) ∧ N (stN1 R0 p0 R1 p1 R2 p2 R3 p3 (List.take m W ++ [[D.v (Value.int IntKind.i64 (hdJ (List.drop (0) (List.getD R1 (Int.toNat i) [])))), D.v (Value.int IntKind.i64 (0)), D.v (Value.int IntKind.i64 (0))]]) (Nat.succ m) (IntKind.wrap IntKind.i64 (i + 1))) else False else False else False else stN1 R0 p0 R1 p1 R2 p2 R3 p3 W m i = stN1 R0 p0 R1 p1 R2 p2 R3 p3 W m i ∧ E (Exit.exit (2)) (stN1 R0 p0 R1 p1 R2 p2 R3 p3 W m i)) := by kernel_rfl
def sN1 (R0 p0 R1 p1 R2 p2 R3 p3 : List (List D)) : LSum := fun Q x => x.only [2, 3, 4, 5, 9, 10, 14, 15, 16] [3, 5, 2000000, 2000001] = stP1 R0 p0 R1 p1 R2 p2 R3 p3 0 ∧ Q (.exit 2) (stN1 R0 p0 R1 p1 R2 p2 R3 p3 (mW R1) R1.length R1.length)
def stQ1 (R0 p0 R1 p1 R2 p2 R3 p3 : List (List D)) (e i : Int) : X := ⟨mkT 47 [(1, .c (.rp 2 0 4 0 0)), (2, .c (.rp 3 0 4 0 0)), (3, ai e), (4, .c (.rp 5 0 4 0 0)), (5, ai 1), (6, ai i)], [(2, .bx 0 4 [.d (.s 0 1 R0 p0), .d (.s 0 1 R1 p1), .d (.s 0 1 R2 p2), .d (.s 0 1 R3 p3)]), (3, .bx 0 4 [.d nilD, .d nilD, .d nilD, .d nilD]), (5, .bx 0 4 [.rs 2000000 0 3 0 R0.length R0.length, .d nilD, .d nilD, .d nilD]), (2000000, .sl 0 3 (mW R0))], [], []⟩
def stM1 (R0 p0 R1 p1 R2 p2 R3 p3 : List (List D)) (W : List (List D)) (m : Nat) (e i : Int) : X := ⟨mkT 47 [(1, .c (.rp 2 0 4 0 0)), (2, .c (.rp 3 0 4 0 0)), (3, ai e), (4, .c (.rp 5 0 4 0 0)), (5, ai 1), (6, ai i)], [(2, .bx 0 4 [.d (.s 0 1 R0 p0), .d (.s 0 1 R1 p1), .d (.s 0 1 R2 p2), .d (.s 0 1 R3 p3)]), (3, .bx 0 4 [.d nilD, .d nilD, .d nilD, .d nilD]), (5, .bx 0 4 [.rs 2000000 0 3 0 R0.length R0.length, .rs 2000001 0 3 0 m m, .d nilD, .d nilD]), (2000000, .sl 0 3 (mW R0)), (2000001, .sl 0 3 W)], [], []⟩
def vM1 (R0 p0 R1 p1 R2 p2 R3 p3 : List (List D)) (y : X) : X := stM1 R0 p0 R1 p1 R2 p2 R3 p3 (Zip y 2000001) (boxL y 5 1) (Zci y 3) (Zci y 6)
theorem eM1r (R0 p0 R1 p1 R2 p2 R3 p3 : List (List D)) (W : List (List D)) (m : Nat) (e i : Int) (N : X → Prop) (E : Exit → X → Prop) : (ZaJ band bor Tryz.prog [(91, sB val8)] [] Tryz.f50 1 [1, 2, 3, 4, 5, 6] [2, 3, 5, 2000000, 2000001] (vM1 R0 p0 R1 p1 R2 p2 R3 p3) (vM1 R0 p0 R1 p1 R2 p2 R3 p3) N E (stM1 R0 p0 R1 p1 R2 p2 R3 p3 W m e i)) = (bif decide (i < @Nat.cast Int _ (List.length R1)) then bif decide (i ≥ 4) then stM1 R0 p0 R1 p1 R2 p2 R3 p3 W m (400) i = stM1 R0 p0 R1 p1 R2 p2 R3 p3 W m (400) i ∧ E Exit.ret (stM1 R0 p0 R1 p1 R2 p2 R3 p3 W m (400) i) else bif decide (0 ≤ i) && decide (i < @Nat.cast Int _ (List.length R1)) then bif isJ [IntKind.i64] (List.drop (0) (List.getD R1 (Int.toNat i) [])) then bif !(decide (hdJ (List.drop (0) (List.getD R1 (Int.toNat i) [])) ≥ 0) && decide (hdJ (List.drop (0) (List.getD R1 (Int.toNat i) [])) ≤ 255)) then stM1 R0 p0 R1 p1 R2 p2 R3 p3 W m (400) i = stM1 R0 p0 R1 p1 R2 p2 R3 p3 W m (400) i ∧ E Exit.ret (stM1 R0 p0 R1 p1 R2 p2 R3 p3 W m (400) i) else bif decide (0 ≤ i) && decide (i < @Nat.cast Int _ (List.length R1)) then bif isJ [IntKind.i64] (List.drop (0) (List.getD R1 (Int.toNat i) [])) then bif decide (m ≤ List.length W) && (decide ((m + 1) * 24 ≤ 140737488355328) && decide (m + 1 ≤ 9223372036854775807)) then stM1 R0 p0 R1 p1 R2 p2 R3 p3 (List.take m W ++ [[D.v (Value.int IntKind.i64 (hdJ (List.drop (0) (List.getD R1 (Int.toNat i) [])))), D.v (Value.int IntKind.i64 (0)), D.v (Value.int IntKind.i64 (0))]]) (Nat.succ m) e (IntKind.wrap IntKind.i64 (i + 1)) = stM1 R0 p0 R1 p1 R2 p2 R3 p3 (List.take m W ++ [[D.v (Value.int IntKind.i64 (hdJ (List.drop (0) (List.getD R1 (Int.toNat i) [])))), D.v (Value.int IntKind.i64 (0)), D.v (Value.int IntKind.i64 (0))]]) (Nat.succ m) e (IntKind.wrap IntKind.i64 (i + 1)) ∧ N (stM1 R0 p0 R1 p1 R2 p2 R3 p3 (List.take m W ++ [[D.v (Value.int IntKind.i64 (hdJ (List.drop (0) (List.getD R1 (Int.toNat i) [])))), D.v (Value.int IntKind.i64 (0)), D.v (Value.int IntKind.i64 (0))]]) (Nat.succ m) e (IntKind.wrap IntKind.i64 (i + 1))) else False else False else False else False else False else stM1 R0 p0 R1 p1 R2 p2 R3 p3 W m e i = stM1 R0 p0 R1 p1 R2 p2 R3 p3 W m e i ∧ E (Exit.exit (2)) (stM1 R0 p0 R1 p1 R2 p2 R3 p3 W m e i)) := by kernel_rfl
def sM1 (R0 p0 R1 p1 R2 p2 R3 p3 : List (List D)) : LSum := fun Q x => x.only [1, 2, 3, 4, 5, 6] [2, 3, 5, 2000000, 2000001] = stQ1 R0 p0 R1 p1 R2 p2 R3 p3 0 0 ∧ (ZaC (toZ (mW R1)) = false → ∀ (W : List (List D)) (m : Nat) (i : Int), Q .ret (stM1 R0 p0 R1 p1 R2 p2 R3 p3 W m 400 i)) ∧ (ZaC (toZ (mW R1)) = true → Q (.exit 2) (stM1 R0 p0 R1 p1 R2 p2 R3 p3 (mW R1) R1.length 0 R1.length))
def stP2 (R0 p0 R1 p1 R2 p2 R3 p3 : List (List D)) (i : Int) : X := ⟨mkT 36 [(2, .c (.rp 3 0 4 0 0)), (3, ai 0), (4, .c (.rp 5 0 4 0 0)), (5, ai 2), (9, .agg [.d (.s 0 1 R0 p0), .d (.s 0 1 R1 p1), .d (.s 0 1 R2 p2), .d (.s 0 1 R3 p3)]), (10, ai 2), (14, aS 1 R2 p2), (15, ai R2.length), (16, ai i)], [(3, .bx 0 4 [.d nilD, .d nilD, .d nilD, .d nilD]), (5, .bx 0 4 [.rs 2000000 0 3 0 R0.length R0.length, .rs 2000001 0 3 0 R1.length R1.length, .d nilD, .d nilD]), (2000000, .sl 0 3 (mW R0)), (2000001, .sl 0 3 (mW R1))], [], []⟩
def stN2 (R0 p0 R1 p1 R2 p2 R3 p3 : List (List D)) (W : List (List D)) (m : Nat) (i : Int) : X := ⟨mkT 36 [(2, .c (.rp 3 0 4 0 0)), (3, ai 0), (4, .c (.rp 5 0 4 0 0)), (5, ai 2), (9, .agg [.d (.s 0 1 R0 p0), .d (.s 0 1 R1 p1), .d (.s 0 1 R2 p2), .d (.s 0 1 R3 p3)]), (10, ai 2), (14, aS 1 R2 p2), (15, ai R2.length), (16, ai i)], [(3, .bx 0 4 [.d nilD, .d nilD, .d nilD, .d nilD]), (5, .bx 0 4 [.rs 2000000 0 3 0 R0.length R0.length, .rs 2000001 0 3 0 R1.length R1.length, .rs 2000002 0 3 0 m m, .d nilD]), (2000000, .sl 0 3 (mW R0)), (2000001, .sl 0 3 (mW R1)), (2000002, .sl 0 3 W)], [], []⟩
def vN2 (R0 p0 R1 p1 R2 p2 R3 p3 : List (List D)) (y : X) : X := stN2 R0 p0 R1 p1 R2 p2 R3 p3 (Zip y 2000002) (boxL y 5 2) (Zci y 16)
theorem eN2r (R0 p0 R1 p1 R2 p2 R3 p3 : List (List D)) (W : List (List D)) (m : Nat) (i : Int) (N : X → Prop) (E : Exit → X → Prop) : (ZaJ band bor Tryz.prog [] [] Tryz.f48 1 [2, 3, 4, 5, 9, 10, 14, 15, 16] [3, 5, 2000000, 2000001, 2000002] (vN2 R0 p0 R1 p1 R2 p2 R3 p3) (vN2 R0 p0 R1 p1 R2 p2 R3 p3) N E (stN2 R0 p0 R1 p1 R2 p2 R3 p3 W m i)) = (bif decide (i < @Nat.cast Int _ (List.length R2)) then bif decide (0 ≤ i) && decide (i < @Nat.cast Int _ (List.length R2)) then bif isJ [IntKind.i64] (List.drop (0) (List.getD R2 (Int.toNat i) [])) then bif decide (m ≤ List.length W) && (decide ((m + 1) * 24 ≤ 140737488355328) && decide (m + 1 ≤ 9223372036854775807)) then stN2 R0 p0 R1 p1 R2 p2 R3 p3 (List.take m W ++ [[D.v (Value.int IntKind.i64 (hdJ (List.drop (0) (List.getD R2 (Int.toNat i) [])))), D.v (Value.int IntKind.i64 (0)), D.v (Value.int IntKind.i64 (0))]]) (Nat.succ m) (IntKind.wrap IntKind.i64 (i + 1)) = stN2 R0 p0 R1 p1 R2 p2 R3 p3 (List.take m W ++ [[D.v (Value.int IntKind.i64 (hdJ (List.drop (0) (List.getD R2 (Int.toNat i) [])))), D.v (Value.int IntKind.i64 (0)), D.v (Value.int IntKind.i64 (0))]]) (Nat.succ m) (IntKind.wrap IntKind.i64 (i + 1)) ∧ N (stN2 R0 p0 R1 p1 R2 p2 R3 p3 (List.take m W ++ [[D.v (Value.int IntKind.i64 (hdJ (List.drop (0) (List.getD R2 (Int.toNat i) [])))), D.v (Value.int IntKind.i64 (0)), D.v (Value.int IntKind.i64 (0))]]) (Nat.succ m) (IntKind.wrap IntKind.i64 (i + 1))) else False else False else False else stN2 R0 p0 R1 p1 R2 p2 R3 p3 W m i = stN2 R0 p0 R1 p1 R2 p2 R3 p3 W m i ∧ E (Exit.exit (2)) (stN2 R0 p0 R1 p1 R2 p2 R3 p3 W m i)) := by kernel_rfl
def sN2 (R0 p0 R1 p1 R2 p2 R3 p3 : List (List D)) : LSum := fun Q x => x.only [2, 3, 4, 5, 9, 10, 14, 15, 16] [3, 5, 2000000, 2000001, 2000002] = stP2 R0 p0 R1 p1 R2 p2 R3 p3 0 ∧ Q (.exit 2) (stN2 R0 p0 R1 p1 R2 p2 R3 p3 (mW R2) R2.length R2.length)
def stQ2 (R0 p0 R1 p1 R2 p2 R3 p3 : List (List D)) (e i : Int) : X := ⟨mkT 47 [(1, .c (.rp 2 0 4 0 0)), (2, .c (.rp 3 0 4 0 0)), (3, ai e), (4, .c (.rp 5 0 4 0 0)), (5, ai 2), (6, ai i)], [(2, .bx 0 4 [.d (.s 0 1 R0 p0), .d (.s 0 1 R1 p1), .d (.s 0 1 R2 p2), .d (.s 0 1 R3 p3)]), (3, .bx 0 4 [.d nilD, .d nilD, .d nilD, .d nilD]), (5, .bx 0 4 [.rs 2000000 0 3 0 R0.length R0.length, .rs 2000001 0 3 0 R1.length R1.length, .d nilD, .d nilD]), (2000000, .sl 0 3 (mW R0)), (2000001, .sl 0 3 (mW R1))], [], []⟩
def stM2 (R0 p0 R1 p1 R2 p2 R3 p3 : List (List D)) (W : List (List D)) (m : Nat) (e i : Int) : X := ⟨mkT 47 [(1, .c (.rp 2 0 4 0 0)), (2, .c (.rp 3 0 4 0 0)), (3, ai e), (4, .c (.rp 5 0 4 0 0)), (5, ai 2), (6, ai i)], [(2, .bx 0 4 [.d (.s 0 1 R0 p0), .d (.s 0 1 R1 p1), .d (.s 0 1 R2 p2), .d (.s 0 1 R3 p3)]), (3, .bx 0 4 [.d nilD, .d nilD, .d nilD, .d nilD]), (5, .bx 0 4 [.rs 2000000 0 3 0 R0.length R0.length, .rs 2000001 0 3 0 R1.length R1.length, .rs 2000002 0 3 0 m m, .d nilD]), (2000000, .sl 0 3 (mW R0)), (2000001, .sl 0 3 (mW R1)), (2000002, .sl 0 3 W)], [], []⟩
def vM2 (R0 p0 R1 p1 R2 p2 R3 p3 : List (List D)) (y : X) : X := stM2 R0 p0 R1 p1 R2 p2 R3 p3 (Zip y 2000002) (boxL y 5 2) (Zci y 3) (Zci y 6)
theorem eM2r (R0 p0 R1 p1 R2 p2 R3 p3 : List (List D)) (W : List (List D)) (m : Nat) (e i : Int) (N : X → Prop) (E : Exit → X → Prop) : (ZaJ band bor Tryz.prog [(91, sB val8)] [] Tryz.f50 1 [1, 2, 3, 4, 5, 6] [2, 3, 5, 2000000, 2000001, 2000002] (vM2 R0 p0 R1 p1 R2 p2 R3 p3) (vM2 R0 p0 R1 p1 R2 p2 R3 p3) N E (stM2 R0 p0 R1 p1 R2 p2 R3 p3 W m e i)) = (bif decide (i < @Nat.cast Int _ (List.length R2)) then bif decide (i ≥ 4) then stM2 R0 p0 R1 p1 R2 p2 R3 p3 W m (400) i = stM2 R0 p0 R1 p1 R2 p2 R3 p3 W m (400) i ∧ E Exit.ret (stM2 R0 p0 R1 p1 R2 p2 R3 p3 W m (400) i) else bif decide (0 ≤ i) && decide (i < @Nat.cast Int _ (List.length R2)) then bif isJ [IntKind.i64] (List.drop (0) (List.getD R2 (Int.toNat i) [])) then bif !(decide (hdJ (List.drop (0) (List.getD R2 (Int.toNat i) [])) ≥ 0) && decide (hdJ (List.drop (0) (List.getD R2 (Int.toNat i) [])) ≤ 255)) then stM2 R0 p0 R1 p1 R2 p2 R3 p3 W m (400) i = stM2 R0 p0 R1 p1 R2 p2 R3 p3 W m (400) i ∧ E Exit.ret (stM2 R0 p0 R1 p1 R2 p2 R3 p3 W m (400) i) else bif decide (0 ≤ i) && decide (i < @Nat.cast Int _ (List.length R2)) then bif isJ [IntKind.i64] (List.drop (0) (List.getD R2 (Int.toNat i) [])) then bif decide (m ≤ List.length W) && (decide ((m + 1) * 24 ≤ 140737488355328) && decide (m + 1 ≤ 9223372036854775807)) then stM2 R0 p0 R1 p1 R2 p2 R3 p3 (List.take m W ++ [[D.v (Value.int IntKind.i64 (hdJ (List.drop (0) (List.getD R2 (Int.toNat i) [])))), D.v (Value.int IntKind.i64 (0)), D.v (Value.int IntKind.i64 (0))]]) (Nat.succ m) e (IntKind.wrap IntKind.i64 (i + 1)) = stM2 R0 p0 R1 p1 R2 p2 R3 p3 (List.take m W ++ [[D.v (Value.int IntKind.i64 (hdJ (List.drop (0) (List.getD R2 (Int.toNat i) [])))), D.v (Value.int IntKind.i64 (0)), D.v (Value.int IntKind.i64 (0))]]) (Nat.succ m) e (IntKind.wrap IntKind.i64 (i + 1)) ∧ N (stM2 R0 p0 R1 p1 R2 p2 R3 p3 (List.take m W ++ [[D.v (Value.int IntKind.i64 (hdJ (List.drop (0) (List.getD R2 (Int.toNat i) [])))), D.v (Value.int IntKind.i64 (0)), D.v (Value.int IntKind.i64 (0))]]) (Nat.succ m) e (IntKind.wrap IntKind.i64 (i + 1))) else False else False else False else False else False else stM2 R0 p0 R1 p1 R2 p2 R3 p3 W m e i = stM2 R0 p0 R1 p1 R2 p2 R3 p3 W m e i ∧ E (Exit.exit (2)) (stM2 R0 p0 R1 p1 R2 p2 R3 p3 W m e i)) := by kernel_rfl
def sM2 (R0 p0 R1 p1 R2 p2 R3 p3 : List (List D)) : LSum := fun Q x => x.only [1, 2, 3, 4, 5, 6] [2, 3, 5, 2000000, 2000001, 2000002] = stQ2 R0 p0 R1 p1 R2 p2 R3 p3 0 0 ∧ (ZaC (toZ (mW R2)) = false → ∀ (W : List (List D)) (m : Nat) (i : Int), Q .ret (stM2 R0 p0 R1 p1 R2 p2 R3 p3 W m 400 i)) ∧ (ZaC (toZ (mW R2)) = true → Q (.exit 2) (stM2 R0 p0 R1 p1 R2 p2 R3 p3 (mW R2) R2.length 0 R2.length))
def stP3 (R0 p0 R1 p1 R2 p2 R3 p3 : List (List D)) (i : Int) : X := ⟨mkT 36 [(2, .c (.rp 3 0 4 0 0)), (3, ai 0), (4, .c (.rp 5 0 4 0 0)), (5, ai 3), (9, .agg [.d (.s 0 1 R0 p0), .d (.s 0 1 R1 p1), .d (.s 0 1 R2 p2), .d (.s 0 1 R3 p3)]), (10, ai 3), (14, aS 1 R3 p3), (15, ai R3.length), (16, ai i)], [(3, .bx 0 4 [.d nilD, .d nilD, .d nilD, .d nilD]), (5, .bx 0 4 [.rs 2000000 0 3 0 R0.length R0.length, .rs 2000001 0 3 0 R1.length R1.length, .rs 2000002 0 3 0 R2.length R2.length, .d nilD]), (2000000, .sl 0 3 (mW R0)), (2000001, .sl 0 3 (mW R1)), (2000002, .sl 0 3 (mW R2))], [], []⟩
def stN3 (R0 p0 R1 p1 R2 p2 R3 p3 : List (List D)) (W : List (List D)) (m : Nat) (i : Int) : X := ⟨mkT 36 [(2, .c (.rp 3 0 4 0 0)), (3, ai 0), (4, .c (.rp 5 0 4 0 0)), (5, ai 3), (9, .agg [.d (.s 0 1 R0 p0), .d (.s 0 1 R1 p1), .d (.s 0 1 R2 p2), .d (.s 0 1 R3 p3)]), (10, ai 3), (14, aS 1 R3 p3), (15, ai R3.length), (16, ai i)], [(3, .bx 0 4 [.d nilD, .d nilD, .d nilD, .d nilD]), (5, .bx 0 4 [.rs 2000000 0 3 0 R0.length R0.length, .rs 2000001 0 3 0 R1.length R1.length, .rs 2000002 0 3 0 R2.length R2.length, .rs 2000003 0 3 0 m m]), (2000000, .sl 0 3 (mW R0)), (2000001, .sl 0 3 (mW R1)), (2000002, .sl 0 3 (mW R2)), (2000003, .sl 0 3 W)], [], []⟩
def vN3 (R0 p0 R1 p1 R2 p2 R3 p3 : List (List D)) (y : X) : X := stN3 R0 p0 R1 p1 R2 p2 R3 p3 (Zip y 2000003) (boxL y 5 3) (Zci y 16)
theorem eN3r (R0 p0 R1 p1 R2 p2 R3 p3 : List (List D)) (W : List (List D)) (m : Nat) (i : Int) (N : X → Prop) (E : Exit → X → Prop) : (ZaJ band bor Tryz.prog [] [] Tryz.f48 1 [2, 3, 4, 5, 9, 10, 14, 15, 16] [3, 5, 2000000, 2000001, 2000002, 2000003] (vN3 R0 p0 R1 p1 R2 p2 R3 p3) (vN3 R0 p0 R1 p1 R2 p2 R3 p3) N E (stN3 R0 p0 R1 p1 R2 p2 R3 p3 W m i)) = (bif decide (i < @Nat.cast Int _ (List.length R3)) then bif decide (0 ≤ i) && decide (i < @Nat.cast Int _ (List.length R3)) then bif isJ [IntKind.i64] (List.drop (0) (List.getD R3 (Int.toNat i) [])) then bif decide (m ≤ List.length W) && (decide ((m + 1) * 24 ≤ 140737488355328) && decide (m + 1 ≤ 9223372036854775807)) then stN3 R0 p0 R1 p1 R2 p2 R3 p3 (List.take m W ++ [[D.v (Value.int IntKind.i64 (hdJ (List.drop (0) (List.getD R3 (Int.toNat i) [])))), D.v (Value.int IntKind.i64 (0)), D.v (Value.int IntKind.i64 (0))]]) (Nat.succ m) (IntKind.wrap IntKind.i64 (i + 1)) = stN3 R0 p0 R1 p1 R2 p2 R3 p3 (List.take m W ++ [[D.v (Value.int IntKind.i64 (hdJ (List.drop (0) (List.getD R3 (Int.toNat i) [])))), D.v (Value.int IntKind.i64 (0)), D.v (Value.int IntKind.i64 (0))]]) (Nat.succ m) (IntKind.wrap IntKind.i64 (i + 1)) ∧ N (stN3 R0 p0 R1 p1 R2 p2 R3 p3 (List.take m W ++ [[D.v (Value.int IntKind.i64 (hdJ (List.drop (0) (List.getD R3 (Int.toNat i) [])))), D.v (Value.int IntKind.i64 (0)), D.v (Value.int IntKind.i64 (0))]]) (Nat.succ m) (IntKind.wrap IntKind.i64 (i + 1))) else False else False else False else stN3 R0 p0 R1 p1 R2 p2 R3 p3 W m i = stN3 R0 p0 R1 p1 R2 p2 R3 p3 W m i ∧ E (Exit.exit (2)) (stN3 R0 p0 R1 p1 R2 p2 R3 p3 W m i)) := by kernel_rfl
def sN3 (R0 p0 R1 p1 R2 p2 R3 p3 : List (List D)) : LSum := fun Q x => x.only [2, 3, 4, 5, 9, 10, 14, 15, 16] [3, 5, 2000000, 2000001, 2000002, 2000003] = stP3 R0 p0 R1 p1 R2 p2 R3 p3 0 ∧ Q (.exit 2) (stN3 R0 p0 R1 p1 R2 p2 R3 p3 (mW R3) R3.length R3.length)
def stQ3 (R0 p0 R1 p1 R2 p2 R3 p3 : List (List D)) (e i : Int) : X := ⟨mkT 47 [(1, .c (.rp 2 0 4 0 0)), (2, .c (.rp 3 0 4 0 0)), (3, ai e), (4, .c (.rp 5 0 4 0 0)), (5, ai 3), (6, ai i)], [(2, .bx 0 4 [.d (.s 0 1 R0 p0), .d (.s 0 1 R1 p1), .d (.s 0 1 R2 p2), .d (.s 0 1 R3 p3)]), (3, .bx 0 4 [.d nilD, .d nilD, .d nilD, .d nilD]), (5, .bx 0 4 [.rs 2000000 0 3 0 R0.length R0.length, .rs 2000001 0 3 0 R1.length R1.length, .rs 2000002 0 3 0 R2.length R2.length, .d nilD]), (2000000, .sl 0 3 (mW R0)), (2000001, .sl 0 3 (mW R1)), (2000002, .sl 0 3 (mW R2))], [], []⟩
def stM3 (R0 p0 R1 p1 R2 p2 R3 p3 : List (List D)) (W : List (List D)) (m : Nat) (e i : Int) : X := ⟨mkT 47 [(1, .c (.rp 2 0 4 0 0)), (2, .c (.rp 3 0 4 0 0)), (3, ai e), (4, .c (.rp 5 0 4 0 0)), (5, ai 3), (6, ai i)], [(2, .bx 0 4 [.d (.s 0 1 R0 p0), .d (.s 0 1 R1 p1), .d (.s 0 1 R2 p2), .d (.s 0 1 R3 p3)]), (3, .bx 0 4 [.d nilD, .d nilD, .d nilD, .d nilD]), (5, .bx 0 4 [.rs 2000000 0 3 0 R0.length R0.length, .rs 2000001 0 3 0 R1.length R1.length, .rs 2000002 0 3 0 R2.length R2.length, .rs 2000003 0 3 0 m m]), (2000000, .sl 0 3 (mW R0)), (2000001, .sl 0 3 (mW R1)), (2000002, .sl 0 3 (mW R2)), (2000003, .sl 0 3 W)], [], []⟩
def vM3 (R0 p0 R1 p1 R2 p2 R3 p3 : List (List D)) (y : X) : X := stM3 R0 p0 R1 p1 R2 p2 R3 p3 (Zip y 2000003) (boxL y 5 3) (Zci y 3) (Zci y 6)
theorem eM3r (R0 p0 R1 p1 R2 p2 R3 p3 : List (List D)) (W : List (List D)) (m : Nat) (e i : Int) (N : X → Prop) (E : Exit → X → Prop) : (ZaJ band bor Tryz.prog [(91, sB val8)] [] Tryz.f50 1 [1, 2, 3, 4, 5, 6] [2, 3, 5, 2000000, 2000001, 2000002, 2000003] (vM3 R0 p0 R1 p1 R2 p2 R3 p3) (vM3 R0 p0 R1 p1 R2 p2 R3 p3) N E (stM3 R0 p0 R1 p1 R2 p2 R3 p3 W m e i)) = (bif decide (i < @Nat.cast Int _ (List.length R3)) then bif decide (i ≥ 4) then stM3 R0 p0 R1 p1 R2 p2 R3 p3 W m (400) i = stM3 R0 p0 R1 p1 R2 p2 R3 p3 W m (400) i ∧ E Exit.ret (stM3 R0 p0 R1 p1 R2 p2 R3 p3 W m (400) i) else bif decide (0 ≤ i) && decide (i < @Nat.cast Int _ (List.length R3)) then bif isJ [IntKind.i64] (List.drop (0) (List.getD R3 (Int.toNat i) [])) then bif !(decide (hdJ (List.drop (0) (List.getD R3 (Int.toNat i) [])) ≥ 0) && decide (hdJ (List.drop (0) (List.getD R3 (Int.toNat i) [])) ≤ 255)) then stM3 R0 p0 R1 p1 R2 p2 R3 p3 W m (400) i = stM3 R0 p0 R1 p1 R2 p2 R3 p3 W m (400) i ∧ E Exit.ret (stM3 R0 p0 R1 p1 R2 p2 R3 p3 W m (400) i) else bif decide (0 ≤ i) && decide (i < @Nat.cast Int _ (List.length R3)) then bif isJ [IntKind.i64] (List.drop (0) (List.getD R3 (Int.toNat i) [])) then bif decide (m ≤ List.length W) && (decide ((m + 1) * 24 ≤ 140737488355328) && decide (m + 1 ≤ 9223372036854775807)) then stM3 R0 p0 R1 p1 R2 p2 R3 p3 (List.take m W ++ [[D.v (Value.int IntKind.i64 (hdJ (List.drop (0) (List.getD R3 (Int.toNat i) [])))), D.v (Value.int IntKind.i64 (0)), D.v (Value.int IntKind.i64 (0))]]) (Nat.succ m) e (IntKind.wrap IntKind.i64 (i + 1)) = stM3 R0 p0 R1 p1 R2 p2 R3 p3 (List.take m W ++ [[D.v (Value.int IntKind.i64 (hdJ (List.drop (0) (List.getD R3 (Int.toNat i) [])))), D.v (Value.int IntKind.i64 (0)), D.v (Value.int IntKind.i64 (0))]]) (Nat.succ m) e (IntKind.wrap IntKind.i64 (i + 1)) ∧ N (stM3 R0 p0 R1 p1 R2 p2 R3 p3 (List.take m W ++ [[D.v (Value.int IntKind.i64 (hdJ (List.drop (0) (List.getD R3 (Int.toNat i) [])))), D.v (Value.int IntKind.i64 (0)), D.v (Value.int IntKind.i64 (0))]]) (Nat.succ m) e (IntKind.wrap IntKind.i64 (i + 1))) else False else False else False else False else False else stM3 R0 p0 R1 p1 R2 p2 R3 p3 W m e i = stM3 R0 p0 R1 p1 R2 p2 R3 p3 W m e i ∧ E (Exit.exit (2)) (stM3 R0 p0 R1 p1 R2 p2 R3 p3 W m e i)) := by kernel_rfl
def sM3 (R0 p0 R1 p1 R2 p2 R3 p3 : List (List D)) : LSum := fun Q x => x.only [1, 2, 3, 4, 5, 6] [2, 3, 5, 2000000, 2000001, 2000002, 2000003] = stQ3 R0 p0 R1 p1 R2 p2 R3 p3 0 0 ∧ (ZaC (toZ (mW R3)) = false → ∀ (W : List (List D)) (m : Nat) (i : Int), Q .ret (stM3 R0 p0 R1 p1 R2 p2 R3 p3 W m 400 i)) ∧ (ZaC (toZ (mW R3)) = true → Q (.exit 2) (stM3 R0 p0 R1 p1 R2 p2 R3 p3 (mW R3) R3.length 0 R3.length))
def ZiH (R0 p0 R1 p1 R2 p2 R3 p3 : List (List D)) : LSum := fun Q x => Zn0 x 5 fun g =>
  cond (decide (g = 0)) (sN0 R0 p0 R1 p1 R2 p2 R3 p3 Q x) (cond (decide (g = 1)) (sN1 R0 p0 R1 p1 R2 p2 R3 p3 Q x) (cond (decide (g = 2)) (sN2 R0 p0 R1 p1 R2 p2 R3 p3 Q x) (sN3 R0 p0 R1 p1 R2 p2 R3 p3 Q x)))
def Zf2 (R0 p0 R1 p1 R2 p2 R3 p3 : List (List D)) : LSum := fun Q x => Zn0 x 5 fun g =>
  cond (decide (g = 0)) (sM0 R0 p0 R1 p1 R2 p2 R3 p3 Q x) (cond (decide (g = 1)) (sM1 R0 p0 R1 p1 R2 p2 R3 p3 Q x) (cond (decide (g = 2)) (sM2 R0 p0 R1 p1 R2 p2 R3 p3 Q x) (sM3 R0 p0 R1 p1 R2 p2 R3 p3 Q x)))
theorem eNew (R0 p0 R1 p1 R2 p2 R3 p3 : List (List D)) (K : DV → Prop) : (askL Tryz.prog [(60, ZbX)] [(6, ZiH R0 p0 R1 p1 R2 p2 R3 p3)] Tryz.f48 [dV R0 p0 R1 p1 R2 p2 R3 p3] K) = (stP0 R0 p0 R1 p1 R2 p2 R3 p3 (0) = stP0 R0 p0 R1 p1 R2 p2 R3 p3 (0) ∧ stP1 R0 p0 R1 p1 R2 p2 R3 p3 (0) = stP1 R0 p0 R1 p1 R2 p2 R3 p3 (0) ∧ stP2 R0 p0 R1 p1 R2 p2 R3 p3 (0) = stP2 R0 p0 R1 p1 R2 p2 R3 p3 (0) ∧ stP3 R0 p0 R1 p1 R2 p2 R3 p3 (0) = stP3 R0 p0 R1 p1 R2 p2 R3 p3 (0) ∧ bif decide (0 + List.length R0 ≤ List.length (mW R0)) then bif decide (0 + List.length R1 ≤ List.length (mW R1)) then bif decide (0 + List.length R2 ≤ List.length (mW R2)) then bif decide (0 + List.length R3 ≤ List.length (mW R3)) then bif okA (cut (mW R0) (0) (List.length R0)) (cut (mW R1) (0) (List.length R1)) (cut (mW R2) (0) (List.length R2)) (cut (mW R3) (0) (List.length R3)) then bif !amay (toZ (cut (mW R0) (0) (List.length R0))) (toZ (cut (mW R1) (0) (List.length R1))) (toZ (cut (mW R2) (0) (List.length R2))) (toZ (cut (mW R3) (0) (List.length R3))) then K (DV.tup [DV.agg [D.v (Value.slice none (0) (0)), D.v (Value.slice none (0) (0)), D.v (Value.slice none (0) (0)), D.v (Value.slice none (0) (0))], DV.c (D.v (Value.int IntKind.i64 (400)))]) else bif decide (List.length R0 ≤ List.length (mW R0)) && List.all (mW R0) fun r => List.all r D.keeps then bif decide (List.length R1 ≤ List.length (mW R1)) && List.all (mW R1) fun r => List.all r D.keeps then bif decide (List.length R2 ≤ List.length (mW R2)) && List.all (mW R2) fun r => List.all r D.keeps then bif decide (List.length R3 ≤ List.length (mW R3)) && List.all (mW R3) fun r => List.all r D.keeps then K (DV.tup [DV.agg [D.s (1) (3) (List.take (List.length R0) (mW R0)) (List.take (List.length R0 - List.length R0) (List.drop (List.length R0) (mW R0))), D.s (1) (3) (List.take (List.length R1) (mW R1)) (List.take (List.length R1 - List.length R1) (List.drop (List.length R1) (mW R1))), D.s (1) (3) (List.take (List.length R2) (mW R2)) (List.take (List.length R2 - List.length R2) (List.drop (List.length R2) (mW R2))), D.s (1) (3) (List.take (List.length R3) (mW R3)) (List.take (List.length R3 - List.length R3) (List.drop (List.length R3) (mW R3)))], DV.c (D.v (Value.int IntKind.i64 (0)))]) else False else False else False else False else False else False else False else False else False) := by kernel_rfl
theorem ZsQ (R0 p0 R1 p1 R2 p2 R3 p3 : List (List D)) (K : DV → Prop) : (askL Tryz.prog [(91, sB val8)] [(6, Zf2 R0 p0 R1 p1 R2 p2 R3 p3)] Tryz.f50 [dV R0 p0 R1 p1 R2 p2 R3 p3] K) = (stQ0 R0 p0 R1 p1 R2 p2 R3 p3 (0) (0) = stQ0 R0 p0 R1 p1 R2 p2 R3 p3 (0) (0) ∧ (ZaC (toZ (mW R0)) = false → ∀ (W : List (List D)) (m : Nat) (i : Int), K (DV.tup [DV.agg [D.v (Value.slice none (0) (0)), D.v (Value.slice none (0) (0)), D.v (Value.slice none (0) (0)), D.v (Value.slice none (0) (0))], DV.c (D.v (Value.int IntKind.i64 (400)))])) ∧ (ZaC (toZ (mW R0)) = true → stQ1 R0 p0 R1 p1 R2 p2 R3 p3 (0) (0) = stQ1 R0 p0 R1 p1 R2 p2 R3 p3 (0) (0) ∧ (ZaC (toZ (mW R1)) = false → ∀ (W : List (List D)) (m : Nat) (i : Int), K (DV.tup [DV.agg [D.v (Value.slice none (0) (0)), D.v (Value.slice none (0) (0)), D.v (Value.slice none (0) (0)), D.v (Value.slice none (0) (0))], DV.c (D.v (Value.int IntKind.i64 (400)))])) ∧ (ZaC (toZ (mW R1)) = true → stQ2 R0 p0 R1 p1 R2 p2 R3 p3 (0) (0) = stQ2 R0 p0 R1 p1 R2 p2 R3 p3 (0) (0) ∧ (ZaC (toZ (mW R2)) = false → ∀ (W : List (List D)) (m : Nat) (i : Int), K (DV.tup [DV.agg [D.v (Value.slice none (0) (0)), D.v (Value.slice none (0) (0)), D.v (Value.slice none (0) (0)), D.v (Value.slice none (0) (0))], DV.c (D.v (Value.int IntKind.i64 (400)))])) ∧ (ZaC (toZ (mW R2)) = true → stQ3 R0 p0 R1 p1 R2 p2 R3 p3 (0) (0) = stQ3 R0 p0 R1 p1 R2 p2 R3 p3 (0) (0) ∧ (ZaC (toZ (mW R3)) = false → ∀ (W : List (List D)) (m : Nat) (i : Int), K (DV.tup [DV.agg [D.v (Value.slice none (0) (0)), D.v (Value.slice none (0) (0)), D.v (Value.slice none (0) (0)), D.v (Value.slice none (0) (0))], DV.c (D.v (Value.int IntKind.i64 (400)))])) ∧ (ZaC (toZ (mW R3)) = true → bif decide (List.length R0 ≤ List.length (mW R0)) && List.all (mW R0) fun r => List.all r D.keeps then bif decide (List.length R1 ≤ List.length (mW R1)) && List.all (mW R1) fun r => List.all r D.keeps then bif decide (List.length R2 ≤ List.length (mW R2)) && List.all (mW R2) fun r => List.all r D.keeps then bif decide (List.length R3 ≤ List.length (mW R3)) && List.all (mW R3) fun r => List.all r D.keeps then K (DV.tup [DV.agg [D.s (1) (3) (List.take (List.length R0) (mW R0)) (List.take (List.length R0 - List.length R0) (List.drop (List.length R0) (mW R0))), D.s (1) (3) (List.take (List.length R1) (mW R1)) (List.take (List.length R1 - List.length R1) (List.drop (List.length R1) (mW R1))), D.s (1) (3) (List.take (List.length R2) (mW R2)) (List.take (List.length R2 - List.length R2) (List.drop (List.length R2) (mW R2))), D.s (1) (3) (List.take (List.length R3) (mW R3)) (List.take (List.length R3 - List.length R3) (List.drop (List.length R3) (mW R3)))], DV.c (D.v (Value.int IntKind.i64 (0)))]) else False else False else False else False))))) := by kernel_rfl
theorem ZaY (l : List (List Int)) : (mL l).length = l.length := by simp [mL]
theorem Zbe (R : List (List D)) : (mW R).length = R.length := by simp [mW, Zag, ZaY, Zat]
theorem Zdb (l : List (List Int)) {i : Nat} (hi : i < l.length) : List.take i (mZ (mL (l.take i))) ++ [[D.v (Value.int IntKind.i64 ((l.getD i []).getD 0 0)), D.v (Value.int IntKind.i64 0), D.v (Value.int IntKind.i64 0)]] = mZ (mL (l.take (i + 1))) := by
  rw [List.take_of_length_le (by rw [Zag, ZaY, List.length_take]; omega)]
  have : l.take (i + 1) = l.take i ++ [l.getD i []] := by
    rw [List.take_add_one, List.getD_eq_getElem?_getD]
    congr 1
    rw [List.getElem?_eq_getElem hi]; rfl
  rw [this]
  simp [mZ, mL]
theorem ZlC (l : List (List Int)) {i : Nat} (hi : i < l.length) : (mL l).getD i [] = [(l.getD i []).getD 0 0, 0, 0] := by
  simp [mL, List.getD_eq_getElem?_getD, hi]
theorem Zif (v : Int) : Zbr [v, 0, 0] = val8 v := by
  have h1 : clk 0 = true := rfl
  have h2 : upto 0 0 255 = true := rfl
  simp [Zbr, wmay, h1, h2]
theorem Zth (l : List (List Int)) : wid 3 (mL l) := fun r hr => by
  obtain ⟨r0, _, rfl⟩ := List.mem_map.1 hr
  rfl
theorem ZcY (R : List (List D)) : toZ (mW R) = mL (toZ R) := Ze3 _
theorem ZcA {R : List (List D)} (h : okZ 1 R = true) : okZ 3 (mW R) = true := Zqm (Zth _) (by rw [ZaY, Zat]; exact (Zah h).2.2)
theorem Zub {R0 p0 R1 p1 R2 p2 R3 p3 : List (List D)} (hR : okZ 1 R0 = true) (hn : R0.length ≤ 5864062014635) (Q : Exit → X → Prop) (x : X) (h : sN0 R0 p0 R1 p1 R2 p2 R3 p3 Q x) : XWP Tryz.prog (.loop (Zak Tryz.f48 1)) Q x := by
  obtain ⟨h1, h2⟩ := h
  obtain ⟨el, hw, _⟩ := Zah hR
  have hl' : (toZ R0).length = R0.length := Zat _
  refine ZbL [2, 3, 4, 5, 9, 10, 14, 15, 16] [3, 5, 2000000] (Zb2 [2, 3, 4, 5, 9, 10, 14, 15, 16] [3, 5, 2000000] ?_)
  rw [h1]
  refine Zcq (kb := 5) (j := 0) (kn := 2000000) (wd := 3) rfl ?_
  refine Zaw (ι := Nat) (H := hkA band bor [] []) (fn := Tryz.f48) (i := 1) (ts := [2, 3, 4, 5, 9, 10, 14, 15, 16]) (ks := [3, 5, 2000000]) (ZaI .nil) mixed (Zae rfl)
    (fun i => stN0 R0 p0 R1 p1 R2 p2 R3 p3 (mZ (mL ((toZ R0).take i))) i i) (fun i => i ≤ R0.length) (fun i => R0.length - i) 0 (vN0 R0 p0 R1 p1 R2 p2 R3 p3) (vN0 R0 p0 R1 p1 R2 p2 R3 p3) (fun i hi => ?_) (Nat.zero_le _) (by kernel_rfl)
  show ZaJ band bor Tryz.prog _ _ Tryz.f48 1 _ _ _ _ _ _ _
  rw [eN0r]
  by_cases hl : i < R0.length
  · have wi : IntKind.wrap .i64 ((i : Int) + 1) = ((i + 1 : Nat) : Int) := Zai (n := 1) (by omega)
    have hll : i < (toZ R0).length := by omega
    have hj1 : isJ [IntKind.i64] ((R0).getD i []) = true := by
      rw [el]; exact Zap (j := 0) (n := 1) hw hll (by omega)
    have hv : hdJ (R0.getD i []) = ((toZ R0).getD i []).getD 0 0 := by
      rw [show R0.getD i [] = (mZ (toZ R0)).getD i [] by rw [← el], Zay]
    have hlen : (mZ (mL ((toZ R0).take i))).length = i := by rw [Zag, ZaY, List.length_take]; omega
    have b1 : (i + 1) * 24 ≤ 140737488355328 := by omega
    have b2 : i + 1 ≤ 9223372036854775807 := by omega
    simp only [Int.ofNat_lt, hl, decide_true, cond_true, Int.natCast_nonneg, Bool.and_self, Int.toNat_natCast, hj1, List.drop_zero, hv, true_and, wi, hlen, b1, b2, Nat.le_refl, Zdb _ hll]
    exact ⟨i + 1, by omega, hl, rfl⟩
  · have e : i = R0.length := by omega
    subst e
    simp only [Int.ofNat_lt, Nat.lt_irrefl, decide_false, cond_false, true_and]
    rw [List.take_of_length_le (by omega)]
    exact h2
theorem Zul {R0 p0 R1 p1 R2 p2 R3 p3 : List (List D)} (hR : okZ 1 R0 = true) (hn : R0.length ≤ 5864062014635) (Q : Exit → X → Prop) (x : X) (h : sM0 R0 p0 R1 p1 R2 p2 R3 p3 Q x) : XWP Tryz.prog (.loop (Zak Tryz.f50 1)) Q x := by
  obtain ⟨h1, h2, h3⟩ := h
  obtain ⟨el, hw, _⟩ := Zah hR
  have hl' : (toZ R0).length = R0.length := Zat _
  refine ZbL [1, 2, 3, 4, 5, 6] [2, 3, 5, 2000000] (Zb2 [1, 2, 3, 4, 5, 6] [2, 3, 5, 2000000] ?_)
  rw [h1]
  refine Zcq (kb := 5) (j := 0) (kn := 2000000) (wd := 3) rfl ?_
  refine Zaw (ι := Nat) (H := hkA band bor [(91, sB val8)] []) (fn := Tryz.f50) (i := 1) (ts := [1, 2, 3, 4, 5, 6]) (ks := [2, 3, 5, 2000000]) (ZaI (.cons Zfz .nil)) mixed (Zae rfl)
    (fun i => stM0 R0 p0 R1 p1 R2 p2 R3 p3 (mZ (mL ((toZ R0).take i))) i 0 i) (fun i => i ≤ R0.length ∧ i ≤ 4 ∧ ∀ j, j < i → Zbr ((mL (toZ R0)).getD j []) = true) (fun i => R0.length - i) 0 (vM0 R0 p0 R1 p1 R2 p2 R3 p3) (vM0 R0 p0 R1 p1 R2 p2 R3 p3) (fun i hp => ?_) ⟨Nat.zero_le _, Nat.zero_le _, fun j hj => by omega⟩ (by kernel_rfl)
  obtain ⟨hi, h4, hj⟩ := hp
  show ZaJ band bor Tryz.prog _ _ Tryz.f50 1 _ _ _ _ _ _ _
  rw [eM0r]
  by_cases hl : i < R0.length
  · by_cases h4' : i = 4
    · have e4 : decide ((i : Int) ≥ 4) = true := by simp; omega
      simp only [Int.ofNat_lt, hl, decide_true, cond_true, e4, true_and]
      exact h2 (by rw [ZcY]; exact Zbi (by rw [ZaY]; omega)) _ _ _
    · have e4 : decide ((i : Int) ≥ 4) = false := by simp; omega
      have wi : IntKind.wrap .i64 ((i : Int) + 1) = ((i + 1 : Nat) : Int) := Zai (n := 1) (by omega)
      have hll : i < (toZ R0).length := by omega
      have hj1 : isJ [IntKind.i64] ((R0).getD i []) = true := by
        rw [el]; exact Zap (j := 0) (n := 1) hw hll (by omega)
      have hv : hdJ (R0.getD i []) = ((toZ R0).getD i []).getD 0 0 := by
        rw [show R0.getD i [] = (mZ (toZ R0)).getD i [] by rw [← el], Zay]
      have hlen : (mZ (mL ((toZ R0).take i))).length = i := by rw [Zag, ZaY, List.length_take]; omega
      have b1 : (i + 1) * 24 ≤ 140737488355328 := by omega
      have b2 : i + 1 ≤ 9223372036854775807 := by omega
      simp only [Int.ofNat_lt, hl, decide_true, cond_true, cond_false, e4, Int.natCast_nonneg, Bool.and_self, Int.toNat_natCast, hj1, List.drop_zero, hv, true_and, wi, hlen, b1, b2, Nat.le_refl, Zdb _ hll]
      have eo : Zbr ((mL (toZ R0)).getD i []) = (decide (((toZ R0).getD i []).getD 0 0 ≥ 0) && decide (((toZ R0).getD i []).getD 0 0 ≤ 255)) := by
        rw [ZlC _ hll, Zif]; rfl
      rw [← eo]
      cases ho : Zbr ((mL (toZ R0)).getD i []) with
      | false =>
        exact h2 (by rw [ZcY]; exact Za3 (by rw [ZaY]; exact hll) ho) _ _ _
      | true =>
        refine ⟨i + 1, by omega, ⟨hl, by omega, fun j hji => ?_⟩, rfl⟩
        rcases Nat.lt_succ_iff_lt_or_eq.1 hji with hji | rfl
        · exact hj j hji
        · exact ho
  · have e : i = R0.length := by omega
    subst e
    simp only [Int.ofNat_lt, Nat.lt_irrefl, decide_false, cond_false, true_and]
    rw [List.take_of_length_le (by omega)]
    exact h3 (by rw [ZcY]; exact Zbz (by rw [ZaY]; omega) (fun j hj' => hj j (by rw [ZaY] at hj'; omega)))
theorem ZuP {R0 p0 R1 p1 R2 p2 R3 p3 : List (List D)} (hR : okZ 1 R1 = true) (hn : R1.length ≤ 5864062014635) (Q : Exit → X → Prop) (x : X) (h : sN1 R0 p0 R1 p1 R2 p2 R3 p3 Q x) : XWP Tryz.prog (.loop (Zak Tryz.f48 1)) Q x := by
  obtain ⟨h1, h2⟩ := h
  obtain ⟨el, hw, _⟩ := Zah hR
  have hl' : (toZ R1).length = R1.length := Zat _
  refine ZbL [2, 3, 4, 5, 9, 10, 14, 15, 16] [3, 5, 2000000, 2000001] (Zb2 [2, 3, 4, 5, 9, 10, 14, 15, 16] [3, 5, 2000000, 2000001] ?_)
  rw [h1]
  refine Zcq (kb := 5) (j := 1) (kn := 2000001) (wd := 3) rfl ?_
  refine Zaw (ι := Nat) (H := hkA band bor [] []) (fn := Tryz.f48) (i := 1) (ts := [2, 3, 4, 5, 9, 10, 14, 15, 16]) (ks := [3, 5, 2000000, 2000001]) (ZaI .nil) mixed (Zae rfl)
    (fun i => stN1 R0 p0 R1 p1 R2 p2 R3 p3 (mZ (mL ((toZ R1).take i))) i i) (fun i => i ≤ R1.length) (fun i => R1.length - i) 0 (vN1 R0 p0 R1 p1 R2 p2 R3 p3) (vN1 R0 p0 R1 p1 R2 p2 R3 p3) (fun i hi => ?_) (Nat.zero_le _) (by kernel_rfl)
  show ZaJ band bor Tryz.prog _ _ Tryz.f48 1 _ _ _ _ _ _ _
  rw [eN1r]
  by_cases hl : i < R1.length
  · have wi : IntKind.wrap .i64 ((i : Int) + 1) = ((i + 1 : Nat) : Int) := Zai (n := 1) (by omega)
    have hll : i < (toZ R1).length := by omega
    have hj1 : isJ [IntKind.i64] ((R1).getD i []) = true := by
      rw [el]; exact Zap (j := 0) (n := 1) hw hll (by omega)
    have hv : hdJ (R1.getD i []) = ((toZ R1).getD i []).getD 0 0 := by
      rw [show R1.getD i [] = (mZ (toZ R1)).getD i [] by rw [← el], Zay]
    have hlen : (mZ (mL ((toZ R1).take i))).length = i := by rw [Zag, ZaY, List.length_take]; omega
    have b1 : (i + 1) * 24 ≤ 140737488355328 := by omega
    have b2 : i + 1 ≤ 9223372036854775807 := by omega
    simp only [Int.ofNat_lt, hl, decide_true, cond_true, Int.natCast_nonneg, Bool.and_self, Int.toNat_natCast, hj1, List.drop_zero, hv, true_and, wi, hlen, b1, b2, Nat.le_refl, Zdb _ hll]
    exact ⟨i + 1, by omega, hl, rfl⟩
  · have e : i = R1.length := by omega
    subst e
    simp only [Int.ofNat_lt, Nat.lt_irrefl, decide_false, cond_false, true_and]
    rw [List.take_of_length_le (by omega)]
    exact h2
theorem Zt6 {R0 p0 R1 p1 R2 p2 R3 p3 : List (List D)} (hR : okZ 1 R1 = true) (hn : R1.length ≤ 5864062014635) (Q : Exit → X → Prop) (x : X) (h : sM1 R0 p0 R1 p1 R2 p2 R3 p3 Q x) : XWP Tryz.prog (.loop (Zak Tryz.f50 1)) Q x := by
  obtain ⟨h1, h2, h3⟩ := h
  obtain ⟨el, hw, _⟩ := Zah hR
  have hl' : (toZ R1).length = R1.length := Zat _
  refine ZbL [1, 2, 3, 4, 5, 6] [2, 3, 5, 2000000, 2000001] (Zb2 [1, 2, 3, 4, 5, 6] [2, 3, 5, 2000000, 2000001] ?_)
  rw [h1]
  refine Zcq (kb := 5) (j := 1) (kn := 2000001) (wd := 3) rfl ?_
  refine Zaw (ι := Nat) (H := hkA band bor [(91, sB val8)] []) (fn := Tryz.f50) (i := 1) (ts := [1, 2, 3, 4, 5, 6]) (ks := [2, 3, 5, 2000000, 2000001]) (ZaI (.cons Zfz .nil)) mixed (Zae rfl)
    (fun i => stM1 R0 p0 R1 p1 R2 p2 R3 p3 (mZ (mL ((toZ R1).take i))) i 0 i) (fun i => i ≤ R1.length ∧ i ≤ 4 ∧ ∀ j, j < i → Zbr ((mL (toZ R1)).getD j []) = true) (fun i => R1.length - i) 0 (vM1 R0 p0 R1 p1 R2 p2 R3 p3) (vM1 R0 p0 R1 p1 R2 p2 R3 p3) (fun i hp => ?_) ⟨Nat.zero_le _, Nat.zero_le _, fun j hj => by omega⟩ (by kernel_rfl)
  obtain ⟨hi, h4, hj⟩ := hp
  show ZaJ band bor Tryz.prog _ _ Tryz.f50 1 _ _ _ _ _ _ _
  rw [eM1r]
  by_cases hl : i < R1.length
  · by_cases h4' : i = 4
    · have e4 : decide ((i : Int) ≥ 4) = true := by simp; omega
      simp only [Int.ofNat_lt, hl, decide_true, cond_true, e4, true_and]
      exact h2 (by rw [ZcY]; exact Zbi (by rw [ZaY]; omega)) _ _ _
    · have e4 : decide ((i : Int) ≥ 4) = false := by simp; omega
      have wi : IntKind.wrap .i64 ((i : Int) + 1) = ((i + 1 : Nat) : Int) := Zai (n := 1) (by omega)
      have hll : i < (toZ R1).length := by omega
      have hj1 : isJ [IntKind.i64] ((R1).getD i []) = true := by
        rw [el]; exact Zap (j := 0) (n := 1) hw hll (by omega)
      have hv : hdJ (R1.getD i []) = ((toZ R1).getD i []).getD 0 0 := by
        rw [show R1.getD i [] = (mZ (toZ R1)).getD i [] by rw [← el], Zay]
      have hlen : (mZ (mL ((toZ R1).take i))).length = i := by rw [Zag, ZaY, List.length_take]; omega
      have b1 : (i + 1) * 24 ≤ 140737488355328 := by omega
      have b2 : i + 1 ≤ 9223372036854775807 := by omega
      simp only [Int.ofNat_lt, hl, decide_true, cond_true, cond_false, e4, Int.natCast_nonneg, Bool.and_self, Int.toNat_natCast, hj1, List.drop_zero, hv, true_and, wi, hlen, b1, b2, Nat.le_refl, Zdb _ hll]
      have eo : Zbr ((mL (toZ R1)).getD i []) = (decide (((toZ R1).getD i []).getD 0 0 ≥ 0) && decide (((toZ R1).getD i []).getD 0 0 ≤ 255)) := by
        rw [ZlC _ hll, Zif]; rfl
      rw [← eo]
      cases ho : Zbr ((mL (toZ R1)).getD i []) with
      | false =>
        exact h2 (by rw [ZcY]; exact Za3 (by rw [ZaY]; exact hll) ho) _ _ _
      | true =>
        refine ⟨i + 1, by omega, ⟨hl, by omega, fun j hji => ?_⟩, rfl⟩
        rcases Nat.lt_succ_iff_lt_or_eq.1 hji with hji | rfl
        · exact hj j hji
        · exact ho
  · have e : i = R1.length := by omega
    subst e
    simp only [Int.ofNat_lt, Nat.lt_irrefl, decide_false, cond_false, true_and]
    rw [List.take_of_length_le (by omega)]
    exact h3 (by rw [ZcY]; exact Zbz (by rw [ZaY]; omega) (fun j hj' => hj j (by rw [ZaY] at hj'; omega)))
theorem ZtZ {R0 p0 R1 p1 R2 p2 R3 p3 : List (List D)} (hR : okZ 1 R2 = true) (hn : R2.length ≤ 5864062014635) (Q : Exit → X → Prop) (x : X) (h : sN2 R0 p0 R1 p1 R2 p2 R3 p3 Q x) : XWP Tryz.prog (.loop (Zak Tryz.f48 1)) Q x := by
  obtain ⟨h1, h2⟩ := h
  obtain ⟨el, hw, _⟩ := Zah hR
  have hl' : (toZ R2).length = R2.length := Zat _
  refine ZbL [2, 3, 4, 5, 9, 10, 14, 15, 16] [3, 5, 2000000, 2000001, 2000002] (Zb2 [2, 3, 4, 5, 9, 10, 14, 15, 16] [3, 5, 2000000, 2000001, 2000002] ?_)
  rw [h1]
  refine Zcq (kb := 5) (j := 2) (kn := 2000002) (wd := 3) rfl ?_
  refine Zaw (ι := Nat) (H := hkA band bor [] []) (fn := Tryz.f48) (i := 1) (ts := [2, 3, 4, 5, 9, 10, 14, 15, 16]) (ks := [3, 5, 2000000, 2000001, 2000002]) (ZaI .nil) mixed (Zae rfl)
    (fun i => stN2 R0 p0 R1 p1 R2 p2 R3 p3 (mZ (mL ((toZ R2).take i))) i i) (fun i => i ≤ R2.length) (fun i => R2.length - i) 0 (vN2 R0 p0 R1 p1 R2 p2 R3 p3) (vN2 R0 p0 R1 p1 R2 p2 R3 p3) (fun i hi => ?_) (Nat.zero_le _) (by kernel_rfl)
  show ZaJ band bor Tryz.prog _ _ Tryz.f48 1 _ _ _ _ _ _ _
  rw [eN2r]
  by_cases hl : i < R2.length
  · have wi : IntKind.wrap .i64 ((i : Int) + 1) = ((i + 1 : Nat) : Int) := Zai (n := 1) (by omega)
    have hll : i < (toZ R2).length := by omega
    have hj1 : isJ [IntKind.i64] ((R2).getD i []) = true := by
      rw [el]; exact Zap (j := 0) (n := 1) hw hll (by omega)
    have hv : hdJ (R2.getD i []) = ((toZ R2).getD i []).getD 0 0 := by
      rw [show R2.getD i [] = (mZ (toZ R2)).getD i [] by rw [← el], Zay]
    have hlen : (mZ (mL ((toZ R2).take i))).length = i := by rw [Zag, ZaY, List.length_take]; omega
    have b1 : (i + 1) * 24 ≤ 140737488355328 := by omega
    have b2 : i + 1 ≤ 9223372036854775807 := by omega
    simp only [Int.ofNat_lt, hl, decide_true, cond_true, Int.natCast_nonneg, Bool.and_self, Int.toNat_natCast, hj1, List.drop_zero, hv, true_and, wi, hlen, b1, b2, Nat.le_refl, Zdb _ hll]
    exact ⟨i + 1, by omega, hl, rfl⟩
  · have e : i = R2.length := by omega
    subst e
    simp only [Int.ofNat_lt, Nat.lt_irrefl, decide_false, cond_false, true_and]
    rw [List.take_of_length_le (by omega)]
    exact h2
theorem ZtR {R0 p0 R1 p1 R2 p2 R3 p3 : List (List D)} (hR : okZ 1 R2 = true) (hn : R2.length ≤ 5864062014635) (Q : Exit → X → Prop) (x : X) (h : sM2 R0 p0 R1 p1 R2 p2 R3 p3 Q x) : XWP Tryz.prog (.loop (Zak Tryz.f50 1)) Q x := by
  obtain ⟨h1, h2, h3⟩ := h
  obtain ⟨el, hw, _⟩ := Zah hR
  have hl' : (toZ R2).length = R2.length := Zat _
  refine ZbL [1, 2, 3, 4, 5, 6] [2, 3, 5, 2000000, 2000001, 2000002] (Zb2 [1, 2, 3, 4, 5, 6] [2, 3, 5, 2000000, 2000001, 2000002] ?_)
  rw [h1]
  refine Zcq (kb := 5) (j := 2) (kn := 2000002) (wd := 3) rfl ?_
  refine Zaw (ι := Nat) (H := hkA band bor [(91, sB val8)] []) (fn := Tryz.f50) (i := 1) (ts := [1, 2, 3, 4, 5, 6]) (ks := [2, 3, 5, 2000000, 2000001, 2000002]) (ZaI (.cons Zfz .nil)) mixed (Zae rfl)
    (fun i => stM2 R0 p0 R1 p1 R2 p2 R3 p3 (mZ (mL ((toZ R2).take i))) i 0 i) (fun i => i ≤ R2.length ∧ i ≤ 4 ∧ ∀ j, j < i → Zbr ((mL (toZ R2)).getD j []) = true) (fun i => R2.length - i) 0 (vM2 R0 p0 R1 p1 R2 p2 R3 p3) (vM2 R0 p0 R1 p1 R2 p2 R3 p3) (fun i hp => ?_) ⟨Nat.zero_le _, Nat.zero_le _, fun j hj => by omega⟩ (by kernel_rfl)
  obtain ⟨hi, h4, hj⟩ := hp
  show ZaJ band bor Tryz.prog _ _ Tryz.f50 1 _ _ _ _ _ _ _
  rw [eM2r]
  by_cases hl : i < R2.length
  · by_cases h4' : i = 4
    · have e4 : decide ((i : Int) ≥ 4) = true := by simp; omega
      simp only [Int.ofNat_lt, hl, decide_true, cond_true, e4, true_and]
      exact h2 (by rw [ZcY]; exact Zbi (by rw [ZaY]; omega)) _ _ _
    · have e4 : decide ((i : Int) ≥ 4) = false := by simp; omega
      have wi : IntKind.wrap .i64 ((i : Int) + 1) = ((i + 1 : Nat) : Int) := Zai (n := 1) (by omega)
      have hll : i < (toZ R2).length := by omega
      have hj1 : isJ [IntKind.i64] ((R2).getD i []) = true := by
        rw [el]; exact Zap (j := 0) (n := 1) hw hll (by omega)
      have hv : hdJ (R2.getD i []) = ((toZ R2).getD i []).getD 0 0 := by
        rw [show R2.getD i [] = (mZ (toZ R2)).getD i [] by rw [← el], Zay]
      have hlen : (mZ (mL ((toZ R2).take i))).length = i := by rw [Zag, ZaY, List.length_take]; omega
      have b1 : (i + 1) * 24 ≤ 140737488355328 := by omega
      have b2 : i + 1 ≤ 9223372036854775807 := by omega
      simp only [Int.ofNat_lt, hl, decide_true, cond_true, cond_false, e4, Int.natCast_nonneg, Bool.and_self, Int.toNat_natCast, hj1, List.drop_zero, hv, true_and, wi, hlen, b1, b2, Nat.le_refl, Zdb _ hll]
      have eo : Zbr ((mL (toZ R2)).getD i []) = (decide (((toZ R2).getD i []).getD 0 0 ≥ 0) && decide (((toZ R2).getD i []).getD 0 0 ≤ 255)) := by
        rw [ZlC _ hll, Zif]; rfl
      rw [← eo]
      cases ho : Zbr ((mL (toZ R2)).getD i []) with
      | false =>
        exact h2 (by rw [ZcY]; exact Za3 (by rw [ZaY]; exact hll) ho) _ _ _
      | true =>
        refine ⟨i + 1, by omega, ⟨hl, by omega, fun j hji => ?_⟩, rfl⟩
        rcases Nat.lt_succ_iff_lt_or_eq.1 hji with hji | rfl
        · exact hj j hji
        · exact ho
  · have e : i = R2.length := by omega
    subst e
    simp only [Int.ofNat_lt, Nat.lt_irrefl, decide_false, cond_false, true_and]
    rw [List.take_of_length_le (by omega)]
    exact h3 (by rw [ZcY]; exact Zbz (by rw [ZaY]; omega) (fun j hj' => hj j (by rw [ZaY] at hj'; omega)))
theorem ZtN {R0 p0 R1 p1 R2 p2 R3 p3 : List (List D)} (hR : okZ 1 R3 = true) (hn : R3.length ≤ 5864062014635) (Q : Exit → X → Prop) (x : X) (h : sN3 R0 p0 R1 p1 R2 p2 R3 p3 Q x) : XWP Tryz.prog (.loop (Zak Tryz.f48 1)) Q x := by
  obtain ⟨h1, h2⟩ := h
  obtain ⟨el, hw, _⟩ := Zah hR
  have hl' : (toZ R3).length = R3.length := Zat _
  refine ZbL [2, 3, 4, 5, 9, 10, 14, 15, 16] [3, 5, 2000000, 2000001, 2000002, 2000003] (Zb2 [2, 3, 4, 5, 9, 10, 14, 15, 16] [3, 5, 2000000, 2000001, 2000002, 2000003] ?_)
  rw [h1]
  refine Zcq (kb := 5) (j := 3) (kn := 2000003) (wd := 3) rfl ?_
  refine Zaw (ι := Nat) (H := hkA band bor [] []) (fn := Tryz.f48) (i := 1) (ts := [2, 3, 4, 5, 9, 10, 14, 15, 16]) (ks := [3, 5, 2000000, 2000001, 2000002, 2000003]) (ZaI .nil) mixed (Zae rfl)
    (fun i => stN3 R0 p0 R1 p1 R2 p2 R3 p3 (mZ (mL ((toZ R3).take i))) i i) (fun i => i ≤ R3.length) (fun i => R3.length - i) 0 (vN3 R0 p0 R1 p1 R2 p2 R3 p3) (vN3 R0 p0 R1 p1 R2 p2 R3 p3) (fun i hi => ?_) (Nat.zero_le _) (by kernel_rfl)
  show ZaJ band bor Tryz.prog _ _ Tryz.f48 1 _ _ _ _ _ _ _
  rw [eN3r]
  by_cases hl : i < R3.length
  · have wi : IntKind.wrap .i64 ((i : Int) + 1) = ((i + 1 : Nat) : Int) := Zai (n := 1) (by omega)
    have hll : i < (toZ R3).length := by omega
    have hj1 : isJ [IntKind.i64] ((R3).getD i []) = true := by
      rw [el]; exact Zap (j := 0) (n := 1) hw hll (by omega)
    have hv : hdJ (R3.getD i []) = ((toZ R3).getD i []).getD 0 0 := by
      rw [show R3.getD i [] = (mZ (toZ R3)).getD i [] by rw [← el], Zay]
    have hlen : (mZ (mL ((toZ R3).take i))).length = i := by rw [Zag, ZaY, List.length_take]; omega
    have b1 : (i + 1) * 24 ≤ 140737488355328 := by omega
    have b2 : i + 1 ≤ 9223372036854775807 := by omega
    simp only [Int.ofNat_lt, hl, decide_true, cond_true, Int.natCast_nonneg, Bool.and_self, Int.toNat_natCast, hj1, List.drop_zero, hv, true_and, wi, hlen, b1, b2, Nat.le_refl, Zdb _ hll]
    exact ⟨i + 1, by omega, hl, rfl⟩
  · have e : i = R3.length := by omega
    subst e
    simp only [Int.ofNat_lt, Nat.lt_irrefl, decide_false, cond_false, true_and]
    rw [List.take_of_length_le (by omega)]
    exact h2
theorem Zty {R0 p0 R1 p1 R2 p2 R3 p3 : List (List D)} (hR : okZ 1 R3 = true) (hn : R3.length ≤ 5864062014635) (Q : Exit → X → Prop) (x : X) (h : sM3 R0 p0 R1 p1 R2 p2 R3 p3 Q x) : XWP Tryz.prog (.loop (Zak Tryz.f50 1)) Q x := by
  obtain ⟨h1, h2, h3⟩ := h
  obtain ⟨el, hw, _⟩ := Zah hR
  have hl' : (toZ R3).length = R3.length := Zat _
  refine ZbL [1, 2, 3, 4, 5, 6] [2, 3, 5, 2000000, 2000001, 2000002, 2000003] (Zb2 [1, 2, 3, 4, 5, 6] [2, 3, 5, 2000000, 2000001, 2000002, 2000003] ?_)
  rw [h1]
  refine Zcq (kb := 5) (j := 3) (kn := 2000003) (wd := 3) rfl ?_
  refine Zaw (ι := Nat) (H := hkA band bor [(91, sB val8)] []) (fn := Tryz.f50) (i := 1) (ts := [1, 2, 3, 4, 5, 6]) (ks := [2, 3, 5, 2000000, 2000001, 2000002, 2000003]) (ZaI (.cons Zfz .nil)) mixed (Zae rfl)
    (fun i => stM3 R0 p0 R1 p1 R2 p2 R3 p3 (mZ (mL ((toZ R3).take i))) i 0 i) (fun i => i ≤ R3.length ∧ i ≤ 4 ∧ ∀ j, j < i → Zbr ((mL (toZ R3)).getD j []) = true) (fun i => R3.length - i) 0 (vM3 R0 p0 R1 p1 R2 p2 R3 p3) (vM3 R0 p0 R1 p1 R2 p2 R3 p3) (fun i hp => ?_) ⟨Nat.zero_le _, Nat.zero_le _, fun j hj => by omega⟩ (by kernel_rfl)
  obtain ⟨hi, h4, hj⟩ := hp
  show ZaJ band bor Tryz.prog _ _ Tryz.f50 1 _ _ _ _ _ _ _
  rw [eM3r]
  by_cases hl : i < R3.length
  · by_cases h4' : i = 4
    · have e4 : decide ((i : Int) ≥ 4) = true := by simp; omega
      simp only [Int.ofNat_lt, hl, decide_true, cond_true, e4, true_and]
      exact h2 (by rw [ZcY]; exact Zbi (by rw [ZaY]; omega)) _ _ _
    · have e4 : decide ((i : Int) ≥ 4) = false := by simp; omega
      have wi : IntKind.wrap .i64 ((i : Int) + 1) = ((i + 1 : Nat) : Int) := Zai (n := 1) (by omega)
      have hll : i < (toZ R3).length := by omega
      have hj1 : isJ [IntKind.i64] ((R3).getD i []) = true := by
        rw [el]; exact Zap (j := 0) (n := 1) hw hll (by omega)
      have hv : hdJ (R3.getD i []) = ((toZ R3).getD i []).getD 0 0 := by
        rw [show R3.getD i [] = (mZ (toZ R3)).getD i [] by rw [← el], Zay]
      have hlen : (mZ (mL ((toZ R3).take i))).length = i := by rw [Zag, ZaY, List.length_take]; omega
      have b1 : (i + 1) * 24 ≤ 140737488355328 := by omega
      have b2 : i + 1 ≤ 9223372036854775807 := by omega
      simp only [Int.ofNat_lt, hl, decide_true, cond_true, cond_false, e4, Int.natCast_nonneg, Bool.and_self, Int.toNat_natCast, hj1, List.drop_zero, hv, true_and, wi, hlen, b1, b2, Nat.le_refl, Zdb _ hll]
      have eo : Zbr ((mL (toZ R3)).getD i []) = (decide (((toZ R3).getD i []).getD 0 0 ≥ 0) && decide (((toZ R3).getD i []).getD 0 0 ≤ 255)) := by
        rw [ZlC _ hll, Zif]; rfl
      rw [← eo]
      cases ho : Zbr ((mL (toZ R3)).getD i []) with
      | false =>
        exact h2 (by rw [ZcY]; exact Za3 (by rw [ZaY]; exact hll) ho) _ _ _
      | true =>
        refine ⟨i + 1, by omega, ⟨hl, by omega, fun j hji => ?_⟩, rfl⟩
        rcases Nat.lt_succ_iff_lt_or_eq.1 hji with hji | rfl
        · exact hj j hji
        · exact ho
  · have e : i = R3.length := by omega
    subst e
    simp only [Int.ofNat_lt, Nat.lt_irrefl, decide_false, cond_false, true_and]
    rw [List.take_of_length_le (by omega)]
    exact h3 (by rw [ZcY]; exact Zbz (by rw [ZaY]; omega) (fun j hj' => hj j (by rw [ZaY] at hj'; omega)))
theorem ZoI {R0 p0 R1 p1 R2 p2 R3 p3 : List (List D)} (h0 : okZ 1 R0 = true) (h1 : okZ 1 R1 = true) (h2 : okZ 1 R2 = true) (h3 : okZ 1 R3 = true) (l0 : R0.length ≤ 5864062014635) (l1 : R1.length ≤ 5864062014635) (l2 : R2.length ≤ 5864062014635) (l3 : R3.length ≤ 5864062014635) (Q : Exit → X → Prop) (x : X) (h : ZiH R0 p0 R1 p1 R2 p2 R3 p3 Q x) : XWP Tryz.prog (.loop (Zak Tryz.f48 1)) Q x := by
  obtain ⟨g, h⟩ := Zet h
  cases hd : decide (g = 0) with
  | true =>
    rw [hd, cond_true] at h
    exact Zub h0 l0 Q x h
  | false =>
    rw [hd, cond_false] at h
    cases hd : decide (g = 1) with
    | true =>
      rw [hd, cond_true] at h
      exact ZuP h1 l1 Q x h
    | false =>
      rw [hd, cond_false] at h
      cases hd : decide (g = 2) with
      | true =>
        rw [hd, cond_true] at h
        exact ZtZ h2 l2 Q x h
      | false =>
        rw [hd, cond_false] at h
        exact ZtN h3 l3 Q x h
theorem Zl8 {R0 p0 R1 p1 R2 p2 R3 p3 : List (List D)} (h0 : okZ 1 R0 = true) (h1 : okZ 1 R1 = true) (h2 : okZ 1 R2 = true) (h3 : okZ 1 R3 = true) (l0 : R0.length ≤ 5864062014635) (l1 : R1.length ≤ 5864062014635) (l2 : R2.length ≤ 5864062014635) (l3 : R3.length ≤ 5864062014635) (Q : Exit → X → Prop) (x : X) (h : Zf2 R0 p0 R1 p1 R2 p2 R3 p3 Q x) : XWP Tryz.prog (.loop (Zak Tryz.f50 1)) Q x := by
  obtain ⟨g, h⟩ := Zet h
  cases hd : decide (g = 0) with
  | true =>
    rw [hd, cond_true] at h
    exact Zul h0 l0 Q x h
  | false =>
    rw [hd, cond_false] at h
    cases hd : decide (g = 1) with
    | true =>
      rw [hd, cond_true] at h
      exact Zt6 h1 l1 Q x h
    | false =>
      rw [hd, cond_false] at h
      cases hd : decide (g = 2) with
      | true =>
        rw [hd, cond_true] at h
        exact ZtR h2 l2 Q x h
      | false =>
        rw [hd, cond_false] at h
        exact Zty h3 l3 Q x h
def okV (R : List (List D)) : Bool := okZ 1 R && decide (R.length ≤ 5864062014635)
def okV4 (R0 R1 R2 R3 : List (List D)) : Bool := okV R0 && (okV R1 && (okV R2 && okV R3))
theorem Zc5 {R0 R1 R2 R3 : List (List D)} (h : okV4 R0 R1 R2 R3 = true) : (okZ 1 R0 = true ∧ R0.length ≤ 5864062014635) ∧ (okZ 1 R1 = true ∧ R1.length ≤ 5864062014635) ∧ (okZ 1 R2 = true ∧ R2.length ≤ 5864062014635) ∧ (okZ 1 R3 = true ∧ R3.length ≤ 5864062014635) := by
  simpa [okV4, okV, Bool.and_eq_true] using h
def sNew : Spec := fun ds Q => match ds with | [.agg [.s 0 1 R0 p0, .s 0 1 R1 p1, .s 0 1 R2 p2, .s 0 1 R3 p3]] => cond (okV4 R0 R1 R2 R3) (cond (amay (toZ (mW R0)) (toZ (mW R1)) (toZ (mW R2)) (toZ (mW R3))) (Q (.tup [dO (mW R0) (mW R1) (mW R2) (mW R3), I 0])) (Q (.tup [dNil, I 400]))) False | _ => False
theorem oNew : Zac Tryz.prog 48 sNew := o_of Tryz.func48 (by kernel_rfl) rfl fun ds Q h => by
  unfold sNew at h; split at h
  · rename_i R0 p0 R1 p1 R2 p2 R3 p3
    obtain ⟨h1, h2⟩ := Zaf h
    obtain ⟨⟨a0, l0⟩, ⟨a1, l1⟩, ⟨a2, l2⟩, ⟨a3, l3⟩⟩ := Zc5 h1
    have z0 := ZcA a0
    have z1 := ZcA a1
    have z2 := ZcA a2
    have z3 := ZcA a3
    have hz : okA (mW R0) (mW R1) (mW R2) (mW R3) = true := by simp [okA, z0, z1, z2, z3]
    have hL : Zau Tryz.prog (hkl [(60, ZbX)] [(6, ZiH R0 p0 R1 p1 R2 p2 R3 p3)]) (Zav Tryz.f48) := ZnD rfl (by kernel_rfl) (by kernel_rfl) (ZoI a0 a1 a2 a3 l0 l1 l2 l3)
    have tk : ∀ R : List (List D), List.take R.length (mW R) = mW R := fun R => List.take_of_length_le (by rw [Zbe]; omega)
    cases hm : amay (toZ (mW R0)) (toZ (mW R1)) (toZ (mW R2)) (toZ (mW R3)) with
    | false =>
      rw [hm] at h2
      refine ⟨_, ZaH (l := [(60, ZbX)]) (m := [(6, ZiH R0 p0 R1 p1 R2 p2 R3 p3)]) (.cons ZjQ .nil) mixed hL Tryz.func48 rfl rfl rfl ?_, rfl, rfl, h2⟩
      rw [eNew]
      simp only [Nat.zero_add, Zbe, Nat.le_refl, decide_true, cond_true, Zhu (Zbe _), hz, hm, Bool.not_false, true_and]
    | true =>
      rw [hm] at h2
      refine ⟨_, ZaH (l := [(60, ZbX)]) (m := [(6, ZiH R0 p0 R1 p1 R2 p2 R3 p3)]) (.cons ZjQ .nil) mixed hL Tryz.func48 rfl rfl rfl ?_, ZlM z0 z1 z2 z3 _, rfl, h2⟩
      rw [eNew]
      simp only [Nat.zero_add, Zbe, Nat.le_refl, decide_true, cond_true, cond_false, Zhu (Zbe _), hz, hm, Bool.not_true, true_and, ZaE (ZaR z0), ZaE (ZaR z1), ZaE (ZaR z2), ZaE (ZaR z3), Bool.and_self, tk, Nat.sub_self, List.take_zero]
  · exact h.elim
theorem ZuD : Zac Tryz.prog 50 sNew := o_of Tryz.func50 (by kernel_rfl) rfl fun ds Q h => by
  unfold sNew at h; split at h
  · rename_i R0 p0 R1 p1 R2 p2 R3 p3
    obtain ⟨h1, h2⟩ := Zaf h
    obtain ⟨⟨a0, l0⟩, ⟨a1, l1⟩, ⟨a2, l2⟩, ⟨a3, l3⟩⟩ := Zc5 h1
    have z0 := ZcA a0
    have z1 := ZcA a1
    have z2 := ZcA a2
    have z3 := ZcA a3
    have hz : okA (mW R0) (mW R1) (mW R2) (mW R3) = true := by simp [okA, z0, z1, z2, z3]
    have hL : Zau Tryz.prog (hkl [(91, sB val8)] [(6, Zf2 R0 p0 R1 p1 R2 p2 R3 p3)]) (Zav Tryz.f50) := ZnD rfl (by kernel_rfl) (by kernel_rfl) (Zl8 a0 a1 a2 a3 l0 l1 l2 l3)
    have tk : ∀ R : List (List D), List.take R.length (mW R) = mW R := fun R => List.take_of_length_le (by rw [Zbe]; omega)
    cases hm : amay (toZ (mW R0)) (toZ (mW R1)) (toZ (mW R2)) (toZ (mW R3)) with
    | false =>
      rw [hm] at h2
      refine ⟨_, ZaH (l := [(91, sB val8)]) (m := [(6, Zf2 R0 p0 R1 p1 R2 p2 R3 p3)]) (.cons Zfz .nil) mixed hL Tryz.func50 rfl rfl rfl ?_, rfl, rfl, h2⟩
      rw [ZsQ]
      cases q0 : ZaC (toZ (mW R0)) with
      | false => exact ⟨rfl, fun _ _ _ _ => rfl, fun e => (nomatch e)⟩
      | true =>
        refine ⟨rfl, fun e => (nomatch e), fun _ => ?_⟩
        cases q1 : ZaC (toZ (mW R1)) with
        | false => exact ⟨rfl, fun _ _ _ _ => rfl, fun e => (nomatch e)⟩
        | true =>
          refine ⟨rfl, fun e => (nomatch e), fun _ => ?_⟩
          cases q2 : ZaC (toZ (mW R2)) with
          | false => exact ⟨rfl, fun _ _ _ _ => rfl, fun e => (nomatch e)⟩
          | true =>
            refine ⟨rfl, fun e => (nomatch e), fun _ => ?_⟩
            cases q3 : ZaC (toZ (mW R3)) with
            | false => exact ⟨rfl, fun _ _ _ _ => rfl, fun e => (nomatch e)⟩
            | true => rw [amay, q0, q1, q2, q3] at hm; cases hm
    | true =>
      rw [hm] at h2
      refine ⟨_, ZaH (l := [(91, sB val8)]) (m := [(6, Zf2 R0 p0 R1 p1 R2 p2 R3 p3)]) (.cons Zfz .nil) mixed hL Tryz.func50 rfl rfl rfl ?_, ZlM z0 z1 z2 z3 _, rfl, h2⟩
      rw [ZsQ]
      simp only [amay, Bool.and_eq_true] at hm
      obtain ⟨q0, q1, q2, q3⟩ := hm
      simp only [q0, q1, q2, q3, Bool.true_eq_false, false_implies, true_implies, true_and, Zbe, Nat.le_refl, decide_true, cond_true, ZaE (ZaR z0), ZaE (ZaR z1), ZaE (ZaR z2), ZaE (ZaR z3), Bool.and_self, tk, Nat.sub_self, List.take_zero]
  · exact h.elim
end

section
open Go Go.Proofs
theorem Zps {α : Type} (l : List α) (p : α → Bool) : decide ((match l.findIdx? p with | some i => (i : Int) | none => -1) ≥ 0) = l.any p := by
  cases h : l.findIdx? p with
  | some i =>
    have : l.any p = true := by
      rw [List.findIdx?_eq_some_iff_getElem] at h
      obtain ⟨h1, h2, _⟩ := h
      exact List.any_eq_true.2 ⟨_, List.getElem_mem h1, h2⟩
    rw [this]; simp
  | none =>
    have : l.any p = false := by
      rw [List.findIdx?_eq_none_iff] at h
      rw [List.any_eq_false]; intro x hx; simpa using h x hx
    rw [this]; rfl
def ix4 (x : Int) : Bool := upto x 0 3
theorem eIdx (x : Int) (K : DV → Prop) : (ask Tryz.prog [] Tryz.f153 [I x] K) = (bif decide (x ≥ 0) then K (DV.c (D.v (Value.bool (decide (x < 4))))) else K (DV.c (D.v (Value.bool false)))) := by kernel_rfl
theorem oIdx : Zac Tryz.prog 153 (sB ix4) := oB Tryz.func153 (by kernel_rfl) rfl fun x => Zaj .nil mixed Tryz.func153 rfl rfl rfl (by
  rw [eIdx]; unfold ix4 upto; rw [lt4]; cases decide (x ≥ 0) <;> rfl)
def askE (k : Nat) (fn : Func) (args : List DV) (K : DV → Prop) : Prop := evp Tryz.prog (hkl [] []) 200 (Zav fn) (finF Tryz.prog fn k K) (ZbU fn.ntmps args)
theorem eOf (a b c : Int) (K : DV → Prop) : (askE 2 Tryz.f155 [.agg [vi a, vi b, vi c]] K) = (K (DV.c (D.f (186) [] [D.p (0) [D.v (Value.int IntKind.i64 a), D.v (Value.int IntKind.i64 b), D.v (Value.int IntKind.i64 c)] (0)]))) := by kernel_rfl
def sOf : Spec := fun ds Q => match ds with | [.agg [.v (.int .i64 a), .v (.int .i64 b), .v (.int .i64 c)]] => Q (.c (.f 186 [] [.p 0 [vI a, vI b, vI c] 0])) | _ => False
theorem oOf : Zac Tryz.prog 155 sOf := ZtU Tryz.func155 (by kernel_rfl) rfl fun ds Q h => by
  unfold sOf at h; split at h
  · rename_i a b c
    refine ⟨_, Zmn (H := hkl [] []) 2 (ZaI .nil) mixed 200 Tryz.func155 rfl (Zae rfl) (Nat.le_of_ble_eq_true rfl) rfl ?_, rfl, rfl, h⟩
    have e := eOf a b c (fun r => r = .c (.f 186 [] [.p 0 [vI a, vI b, vI c] 0]))
    exact e.mpr rfl
  · exact h.elim
theorem eOf1 (a b c x y z : Int) (K : DV → Prop) : (ask Tryz.prog [] Tryz.f186 [.agg [vi x, vi y, vi z], .c (.p 0 [vI a, vI b, vI c] 0)] K) = (bif x == a then K (DV.c (D.v (Value.bool (y == b)))) else K (DV.c (D.v (Value.bool false)))) := by kernel_rfl
def Zb6 (a b c : Int) (r : List Int) : Bool := bif r.getD 0 0 == a then r.getD 1 0 == b else false
def sOf1 : Spec := fun ds Q => match ds with | [.agg [.v (.int .i64 x), .v (.int .i64 y), .v (.int .i64 z)], .c (.p 0 [.v (.int .i64 a), .v (.int .i64 b), .v (.int .i64 c)] 0)] => Q (B (Zb6 a b c [x, y, z])) | _ => False
theorem oOf1 : Zac Tryz.prog 186 sOf1 := o_of Tryz.func186 (by kernel_rfl) rfl fun ds Q h => by
  unfold sOf1 at h; split at h
  · rename_i x y z a b c
    refine ⟨_, Zaj .nil mixed Tryz.func186 rfl rfl rfl ?_, rfl, rfl, h⟩
    rw [eOf1]; unfold Zb6; simp only [List.getD_cons_zero, List.getD_cons_succ]; cases x == a <;> rfl
  · exact h.elim
def sIXR (a : Int) (b : Int) (c : Int) (R : List (List D)) (sp : List (List D)) (v : Int) (i : Int) : X := ⟨mkT 19 [(0, aS 3 R sp), (1, .c (.d (.f 186 [] [.p 0 [vI a, vI b, vI c] 0]))), (4, ai v), (7, ai R.length), (8, ai i)], [], [], []⟩
def Zhh (a : Int) (b : Int) (c : Int) (R : List (List D)) (sp : List (List D)) : Vw := fun y K => wI y 4 fun v => wI y 8 fun i => K (sIXR a b c R sp v i)
theorem ZiM (a : Int) (b : Int) (c : Int) (R : List (List D)) (sp : List (List D)) : VwOK (Zhh a b c R sp) := fun y K h => by
  unfold Zhh at h
  obtain ⟨v, h⟩ := Zbt h
  obtain ⟨i, h⟩ := Zbt h
  exact ⟨_, h⟩
theorem rIXR (a : Int) (b : Int) (c : Int) (R sp : List (List D)) (i v : Int) (N : X → Prop) (E : Exit → X → Prop) : (Zcn Tryz.prog (hkA band bor [(186, sOf1)] []) Tryz.f185 0 [] [0, 1, 4, 7, 8] [] (Zhh a b c R sp) (Zhh a b c R sp) N E (sIXR a b c R sp v i)) = (bif decide (i < @Nat.cast Int _ (List.length R)) then bif decide (0 ≤ i) && decide (i < @Nat.cast Int _ (List.length R)) then bif isJ [IntKind.i64, IntKind.i64, IntKind.i64] (List.drop (0) (List.getD R (Int.toNat i) [])) then bif Zb6 a b c [hdJ (List.drop (0) (List.getD R (Int.toNat i) [])), hdJ (List.tail (List.drop (0) (List.getD R (Int.toNat i) []))), hdJ (List.tail (List.tail (List.drop (0) (List.getD R (Int.toNat i) []))))] then sIXR a b c R sp i i = sIXR a b c R sp i i ∧ E Exit.ret (sIXR a b c R sp i i) else sIXR a b c R sp v (IntKind.wrap IntKind.i64 (i + 1)) = sIXR a b c R sp v (IntKind.wrap IntKind.i64 (i + 1)) ∧ N (sIXR a b c R sp v (IntKind.wrap IntKind.i64 (i + 1))) else False else False else sIXR a b c R sp v i = sIXR a b c R sp v i ∧ E (Exit.exit (0)) (sIXR a b c R sp v i)) := by kernel_rfl
def fIXR (a : Int) (b : Int) (c : Int) (l : List (List Int)) (sp : List (List D)) : LSum := ZcH [0, 1, 4, 7, 8] [] (fun i => sIXR a b c (mZ l) sp 0 i) (fun i => sIXR a b c (mZ l) sp i i) l.length (fun i => Zb6 a b c (l.getD i [])) .ret (.exit 0)
theorem eIXR (a : Int) (b : Int) (c : Int) (l : List (List Int)) (sp : List (List D)) (K : DV → Prop) : (askL Tryz.prog [] [(2, fIXR a b c l sp)] Tryz.f185 [dS 3 (mZ l) sp, .c (.f 186 [] [.p 0 [vI a, vI b, vI c] 0])] K) = (sIXR a b c (mZ l) sp (0) (0) = sIXR a b c (mZ l) sp (0) (0) ∧ (∀ (i : Nat), firstAt (fun i => Zb6 a b c (List.getD l i [])) (List.length l) i → K (DV.c (D.v (Value.int IntKind.i64 (@Nat.cast Int _ i))))) ∧ (noneTo (fun i => Zb6 a b c (List.getD l i [])) (List.length l) → K (DV.c (D.v (Value.int IntKind.i64 (-1)))))) := by kernel_rfl
theorem kIXR (a : Int) (b : Int) (c : Int) {l : List (List Int)} {sp : List (List D)} (hw : wid 3 l) (hn : l.length ≤ 9223372036854775807) (Q : Exit → X → Prop) (x : X) (h : fIXR a b c l sp Q x) : XWP Tryz.prog (.loop (Zak Tryz.f185 0)) Q x := by
  refine ZbW (H := hkA band bor [(186, sOf1)] []) (sw := []) (V := Zhh a b c (mZ l) sp) (VE := Zhh a b c (mZ l) sp) (ZaI (.cons oOf1 .nil)) mixed (Zae rfl) (ZiM a b c (mZ l) sp) (ZiM a b c (mZ l) sp) _ _ _ _ _ _ (fun i hl N E h1 h2 => ?_) (fun N E h1 => ?_) Q x h
  · rw [rIXR]
    have wi : IntKind.wrap .i64 ((i : Int) + 1) = ((i + 1 : Nat) : Int) := Zai (n := 1) (by omega)
    have hj1 : isJ [IntKind.i64, IntKind.i64, IntKind.i64] ((mZ l).getD i []) = true := Zap (j := 0) (n := 3) hw hl (by omega)
    simp only [Zag, Int.ofNat_lt, hl, decide_true, cond_true, Int.natCast_nonneg, Bool.and_self, Int.toNat_natCast, ZaK, ZaM, Zbc, hj1, List.drop_zero, Zay, true_and, wi]
    have e : Zb6 a b c (l.getD i []) = Zb6 a b c [(l.getD i []).getD 0 0, (l.getD i []).getD 1 0, (l.getD i []).getD 2 0] := rfl
    cases ho : Zb6 a b c (l.getD i []) with
    | false => rw [e] at ho; rw [ho]; exact h2 (by rw [e]; exact ho)
    | true => rw [e] at ho; rw [ho]; exact h1 (by rw [e]; exact ho)
  · rw [rIXR]
    simp only [Zag, Int.ofNat_lt, Nat.lt_irrefl, decide_false, cond_false, true_and]
    exact h1
def sIxR : Spec := fun ds Q => match ds with | [.c (.s 0 3 R sp), .c (.f 186 [] [.p 0 [.v (.int .i64 a), .v (.int .i64 b), .v (.int .i64 c)] 0])] => cond (okZ 3 R) (Q (I (match (toZ R).findIdx? (Zb6 a b c) with | some i => (i : Int) | none => -1))) False | _ => False
theorem oIxR : Zac Tryz.prog 185 sIxR := o_of Tryz.func185 (by kernel_rfl) rfl fun ds Q h => by
  unfold sIxR at h; split at h
  · rename_i R sp a b c
    obtain ⟨h1, h2⟩ := Zaf h
    obtain ⟨e1, w1, n1⟩ := Zah h1
    rw [e1]
    rw [← Zat R] at n1
    generalize toZ R = l at *
    refine ⟨_, ZaH (l := []) (m := [(2, fIXR a b c l sp)]) .nil mixed (Zbo rfl (by kernel_rfl) (kIXR a b c w1 n1)) Tryz.func185 rfl rfl rfl ?_, rfl, rfl, h2⟩
    rw [eIXR]
    refine ⟨rfl, fun i hi => ?_, fun hn => ?_⟩
    · rw [hi.find]
    · rw [hn.find]
  · exact h.elim
theorem eCOR (a : Int) (b : Int) (c : Int) (R sp : List (List D)) (K : DV → Prop) : (ask Tryz.prog [(185, sIxR)] Tryz.f154 [dS 3 R sp, .c (.f 186 [] [.p 0 [vI a, vI b, vI c] 0])] K) = (bif okZ (3) R then K (DV.c (D.v (Value.bool (decide ((match List.findIdx? (Zb6 a b c) (toZ R) with | some i => @Nat.cast Int _ i | none => -1) ≥ 0))))) else False) := by kernel_rfl
def sCoR : Spec := fun ds Q => match ds with | [.c (.s 0 3 R sp), .c (.f 186 [] [.p 0 [.v (.int .i64 a), .v (.int .i64 b), .v (.int .i64 c)] 0])] => cond (okZ 3 R) (Q (B ((toZ R).any (Zb6 a b c)))) False | _ => False
theorem oCoR : Zac Tryz.prog 154 sCoR := o_of Tryz.func154 (by kernel_rfl) rfl fun ds Q h => by
  unfold sCoR at h; split at h
  · obtain ⟨h1, h2⟩ := Zaf h
    refine ⟨_, Zaj (.cons oIxR .nil) mixed Tryz.func154 rfl rfl rfl ?_, rfl, rfl, h2⟩
    rw [eCOR, h1, Zps]; rfl
  · exact h.elim
def ok1 (a b c : Int) : Bool := bif lab a then bif ix4 b then clk c else false else false
theorem eWN (x y : Int) (K : DV → Prop) : (ask Tryz.prog [(71, sB lab), (119, sUp)] Tryz.f166 [I x, I y] K) = (bif lab x then K (DV.c (D.v (Value.bool (decide (y ≥ 0) && decide (y ≤ 3))))) else K (DV.c (D.v (Value.bool false)))) := by kernel_rfl
def wnm (x y : Int) : Bool := bif lab x then ix4 y else false
def sWN : Spec := fun ds Q => match ds with | [.c (.v (.int .i64 x)), .c (.v (.int .i64 y))] => Q (B (wnm x y)) | _ => False
theorem oWN : Zac Tryz.prog 166 sWN := o_of Tryz.func166 (by kernel_rfl) rfl fun ds Q h => by
  unfold sWN at h; split at h
  · rename_i x y
    refine ⟨_, Zaj (.cons Zmi (.cons oUp .nil)) mixed Tryz.func166 rfl rfl rfl ?_, rfl, rfl, h⟩
    rw [eWN]; unfold wnm ix4 upto; cases lab x <;> rfl
  · exact h.elim
end

section
open Go Go.Proofs
def badR (l : List (List Int)) (i : Nat) : Bool := !ok1 ((l.getD i []).getD 0 0) ((l.getD i []).getD 1 0) ((l.getD i []).getD 2 0) || (l.take i).any (Zb6 ((l.getD i []).getD 0 0) ((l.getD i []).getD 1 0) ((l.getD i []).getD 2 0))
def rmay (l : List (List Int)) : Bool := decide (l.length ≤ 16) && !(List.range l.length).any (badR l)
theorem ZpV (R sp : List (List D)) {i : Nat} (hi : i ≤ R.length) : cut (R ++ sp) 0 i = R.take i := by
  simp [cut, List.take_append_of_le_length hi]
theorem ZrE {l : List (List Int)} {p : List Int → Bool} {i k : Nat} (hi : i ≤ l.length) (h : firstAt (fun j => p (l.getD j [])) i k) : (l.take i).any p = true := by
  refine firstAt.any (d := []) (i := k) ⟨by rw [List.length_take]; have := h.1; omega, ?_, fun j hj => ?_⟩
  · show p ((l.take i).getD k []) = true
    have := h.1
    rw [show (l.take i).getD k [] = l.getD k [] by simp [List.getD_eq_getElem?_getD, List.getElem?_take, this]]; exact h.2.1
  · show p ((l.take i).getD j []) = false
    have := h.1
    rw [show (l.take i).getD j [] = l.getD j [] by simp [List.getD_eq_getElem?_getD, List.getElem?_take, Nat.lt_trans hj this]]; exact h.2.2 j hj
theorem ZpD {l : List (List Int)} {p : List Int → Bool} {i : Nat} (hi : i ≤ l.length) (h : noneTo (fun j => p (l.getD j [])) i) : (l.take i).any p = false := by
  refine noneTo.any (d := []) fun j hj => ?_
  have hj : j < i := by rw [List.length_take] at hj; omega
  show p ((l.take i).getD j []) = false
  rw [show (l.take i).getD j [] = l.getD j [] by simp [List.getD_eq_getElem?_getD, List.getElem?_take, hj]]; exact h j hj
theorem ZqH {P : Program} {l : List (FuncId × Spec)} {fn : Func} {k : Nat} {s : LSum} (hn : (Za1 (Zav fn)).length = 2) (hk : Zby (Zak fn 0) = k) (hk1 : (hkl l [(k, s)]).loop (Zby (Zak fn 1)) = none) (h : ∀ Q x, s Q x → XWP P (.loop (Zak fn 0)) Q x) : Zau P (hkl l [(k, s)]) (Zav fn) :=
  ZcK 2 hn fun i hi s' hs Q x hq => by
    match i, hi with
    | 1, _ => rw [hk1] at hs; cases hs
    | 0, _ =>
      rw [hk] at hs
      have hs' : some s = some s' := by simpa [Zc0, hkl, hkA, Zba] using hs
      cases hs'
      exact h Q x hq
def stRM (R : List (List D)) (sp : List (List D)) (v : Bool) (i : Int) : X := ⟨mkT 40 [(0, aS 3 R sp), (2, ab v), (8, aS 3 R sp), (9, ai R.length), (10, ai i)], [], [], []⟩
def ZgW (R : List (List D)) (sp : List (List D)) : Vw := fun y K => wB y 2 fun v => wI y 10 fun i => K (stRM R sp v i)
theorem ZiN (R : List (List D)) (sp : List (List D)) : VwOK (ZgW R sp) := fun y K h => by
  unfold ZgW at h
  obtain ⟨v, h⟩ := Zdf h
  obtain ⟨i, h⟩ := Zbt h
  exact ⟨_, h⟩
theorem rRM (R sp : List (List D)) (v : Bool) (i : Int) (N : X → Prop) (E : Exit → X → Prop) : (Zcn Tryz.prog (hkA band bor [(64, sB lab), (153, sB ix4), (102, sB clk), (155, sOf), (154, sCoR)] []) Tryz.f105 0 [] [0, 2, 8, 9, 10] [] (ZgW R sp) (ZgW R sp) N E (stRM R sp v i)) = (bif decide (i < @Nat.cast Int _ (List.length R)) then bif decide (0 ≤ i) && decide (i < @Nat.cast Int _ (List.length R)) then bif isJ [IntKind.i64, IntKind.i64, IntKind.i64] (List.drop (0) (List.getD R (Int.toNat i) [])) then bif !lab (hdJ (List.drop (0) (List.getD R (Int.toNat i) []))) then stRM R sp false i = stRM R sp false i ∧ E Exit.ret (stRM R sp false i) else bif !ix4 (hdJ (List.tail (List.drop (0) (List.getD R (Int.toNat i) [])))) then stRM R sp false i = stRM R sp false i ∧ E Exit.ret (stRM R sp false i) else bif !clk (hdJ (List.tail (List.tail (List.drop (0) (List.getD R (Int.toNat i) []))))) then stRM R sp false i = stRM R sp false i ∧ E Exit.ret (stRM R sp false i) else bif true && (decide (0 ≤ i) && decide (i ≤ @Nat.cast Int _ (List.length R + List.length sp))) then bif okZ (3) (cut (R ++ sp) (0) (Int.toNat i - 0)) then bif List.any (toZ (cut (R ++ sp) (0) (Int.toNat i - 0))) (Zb6 (hdJ (List.drop (0) (List.getD R (Int.toNat i) []))) (hdJ (List.tail (List.drop (0) (List.getD R (Int.toNat i) [])))) (hdJ (List.tail (List.tail (List.drop (0) (List.getD R (Int.toNat i) [])))))) then stRM R sp false i = stRM R sp false i ∧ E Exit.ret (stRM R sp false i) else stRM R sp v (IntKind.wrap IntKind.i64 (i + 1)) = stRM R sp v (IntKind.wrap IntKind.i64 (i + 1)) ∧ N (stRM R sp v (IntKind.wrap IntKind.i64 (i + 1))) else False else False else False else False else stRM R sp v i = stRM R sp v i ∧ E (Exit.exit (0)) (stRM R sp v i)) := by kernel_rfl
def fRM (l : List (List Int)) (sp : List (List D)) : LSum := ZcH [0, 2, 8, 9, 10] [] (fun i => stRM (mZ l) sp false i) (fun i => stRM (mZ l) sp false i) l.length (badR l) .ret (.exit 0)
theorem kRM {l : List (List Int)} {sp : List (List D)} (hw : wid 3 l) (hn : l.length ≤ 9223372036854775807) (Q : Exit → X → Prop) (x : X) (h : fRM l sp Q x) : XWP Tryz.prog (.loop (Zak Tryz.f105 0)) Q x := by
  refine ZbW (H := hkA band bor [(64, sB lab), (153, sB ix4), (102, sB clk), (155, sOf), (154, sCoR)] []) (sw := []) (V := ZgW (mZ l) sp) (VE := ZgW (mZ l) sp) (ZaI (.cons oLab (.cons oIdx (.cons oClk (.cons oOf (.cons oCoR .nil)))))) mixed (Zae rfl) (ZiN (mZ l) sp) (ZiN (mZ l) sp) _ _ _ _ _ _ (fun i hl N E h1 h2 => ?_) (fun N E h1 => ?_) Q x h
  · rw [rRM]
    have wi : IntKind.wrap .i64 ((i : Int) + 1) = ((i + 1 : Nat) : Int) := Zai (n := 1) (by omega)
    have hj1 : isJ [IntKind.i64, IntKind.i64, IntKind.i64] ((mZ l).getD i []) = true := Zap (j := 0) (n := 3) hw hl (by omega)
    have hc : cut (mZ l ++ sp) 0 i = mZ (l.take i) := by rw [ZpV _ _ (by rw [Zag]; omega), ZqQ]
    have ho : okZ 3 (mZ (l.take i)) = true := Zqm (Zpf hw i) (by simp; omega)
    have hb : decide ((i : Int) ≤ ((l.length + sp.length : Nat) : Int)) = true := by simp; omega
    simp only [Zag, Int.ofNat_lt, hl, decide_true, cond_true, Int.natCast_nonneg, Bool.and_self, Int.toNat_natCast, ZaK, ZaM, hj1, List.drop_zero, Zay, true_and, wi, Nat.sub_zero, hc, ho, hb, Ze3]
    unfold badR ok1 at h1 h2
    revert h1 h2
    generalize lab ((l.getD i []).getD 0 0) = p1
    generalize ix4 ((l.getD i []).getD 1 0) = p2
    generalize clk ((l.getD i []).getD 2 0) = p3
    generalize (l.take i).any (Zb6 ((l.getD i []).getD 0 0) ((l.getD i []).getD 1 0) ((l.getD i []).getD 2 0)) = p4
    cases p1 <;> cases p2 <;> cases p3 <;> cases p4 <;> intro h1 h2 <;> first | exact h1 rfl | exact h2 rfl
  · rw [rRM]
    simp only [Zag, Int.ofNat_lt, Nat.lt_irrefl, decide_false, cond_false, true_and]
    exact h1
theorem eRM (l : List (List Int)) (sp : List (List D)) (K : DV → Prop) : (askL Tryz.prog [] [(4, fRM l sp)] Tryz.f105 [dS 3 (mZ l) sp] K) = (bif decide (@Nat.cast Int _ (List.length (mZ l)) > 16) then K (DV.c (D.v (Value.bool false))) else stRM (mZ l) sp false (0) = stRM (mZ l) sp false (0) ∧ (∀ (i : Nat), firstAt (badR l) (List.length l) i → K (DV.c (D.v (Value.bool false)))) ∧ (noneTo (badR l) (List.length l) → K (DV.c (D.v (Value.bool true))))) := by kernel_rfl
def sRM : Spec := fun ds Q => match ds with | [.c (.s 0 3 R sp)] => cond (okZ 3 R) (Q (B (rmay (toZ R)))) False | _ => False
theorem oRM : Zac Tryz.prog 105 sRM := o_of Tryz.func105 (by kernel_rfl) rfl fun ds Q h => by
  unfold sRM at h; split at h
  · rename_i R sp
    obtain ⟨h1, h2⟩ := Zaf h
    obtain ⟨e1, w1, n1⟩ := Zah h1
    rw [e1]
    rw [← Zat R] at n1
    generalize toZ R = l at *
    refine ⟨_, ZaH (l := []) (m := [(4, fRM l sp)]) .nil mixed (Zbo rfl (by kernel_rfl) (kRM w1 n1)) Tryz.func105 rfl rfl rfl ?_, rfl, rfl, h2⟩
    rw [eRM]
    have hg : decide (((mZ l).length : Int) > 16) = !decide (l.length ≤ 16) := by rw [Zag]; by_cases h : l.length ≤ 16 <;> simp [h] <;> omega
    rw [hg]
    cases hd : decide (l.length ≤ 16) with
    | false => simp [rmay, hd]
    | true =>
      simp only [Bool.not_true, cond_false]
      refine ⟨by trivial, fun i hi => ?_, fun hn => ?_⟩
      · rw [rmay, hi.b]; simp
      · rw [rmay, hn.b, hd]; rfl
  · exact h.elim
def stQM (R : List (List D)) (sp : List (List D)) (v : Bool) (i : Int) : X := ⟨mkT 64 [(0, aS 3 R sp), (2, ab v), (3, ai i)], [], [], []⟩
def Zhb (R : List (List D)) (sp : List (List D)) : Vw := fun y K => wB y 2 fun v => wI y 3 fun i => K (stQM R sp v i)
theorem ZjB (R : List (List D)) (sp : List (List D)) : VwOK (Zhb R sp) := fun y K h => by
  unfold Zhb at h
  obtain ⟨v, h⟩ := Zdf h
  obtain ⟨i, h⟩ := Zbt h
  exact ⟨_, h⟩
def stQN (R : List (List D)) (sp : List (List D)) (i : Int) (v : Bool) (j : Int) : X := ⟨mkT 64 [(0, aS 3 R sp), (2, ab v), (3, ai i), (4, ai j)], [], [], []⟩
def ZgV (R : List (List D)) (sp : List (List D)) (i : Int) : Vw := fun y K => wB y 2 fun v => wI y 4 fun j => K (stQN R sp i v j)
theorem Zjk (R : List (List D)) (sp : List (List D)) (i : Int) : VwOK (ZgV R sp i) := fun y K h => by
  unfold ZgV at h
  obtain ⟨v, h⟩ := Zdf h
  obtain ⟨j, h⟩ := Zbt h
  exact ⟨_, h⟩
theorem rQN (R sp : List (List D)) (i : Int) (v : Bool) (j : Int) (N : X → Prop) (E : Exit → X → Prop) : (Zcn Tryz.prog (hkA band bor [] []) Tryz.f122 1 [] [0, 2, 3, 4] [] (ZgV R sp i) (ZgV R sp i) N E (stQN R sp i v j)) = (bif decide (j < i) then bif decide (0 ≤ j) && decide (j < @Nat.cast Int _ (List.length R)) then bif isJ [IntKind.i64] (List.drop (0) (List.getD R (Int.toNat j) [])) then bif decide (0 ≤ i) && decide (i < @Nat.cast Int _ (List.length R)) then bif isJ [IntKind.i64] (List.drop (0) (List.getD R (Int.toNat i) [])) then bif hdJ (List.drop (0) (List.getD R (Int.toNat j) [])) == hdJ (List.drop (0) (List.getD R (Int.toNat i) [])) then bif decide (0 ≤ j) && decide (j < @Nat.cast Int _ (List.length R)) then bif isJ [IntKind.i64] (List.drop (1) (List.getD R (Int.toNat j) [])) then bif decide (0 ≤ i) && decide (i < @Nat.cast Int _ (List.length R)) then bif isJ [IntKind.i64] (List.drop (1) (List.getD R (Int.toNat i) [])) then bif hdJ (List.drop (1) (List.getD R (Int.toNat j) [])) == hdJ (List.drop (1) (List.getD R (Int.toNat i) [])) then stQN R sp i false j = stQN R sp i false j ∧ E Exit.ret (stQN R sp i false j) else stQN R sp i v (IntKind.wrap IntKind.i64 (j + 1)) = stQN R sp i v (IntKind.wrap IntKind.i64 (j + 1)) ∧ N (stQN R sp i v (IntKind.wrap IntKind.i64 (j + 1))) else False else False else False else False else stQN R sp i v (IntKind.wrap IntKind.i64 (j + 1)) = stQN R sp i v (IntKind.wrap IntKind.i64 (j + 1)) ∧ N (stQN R sp i v (IntKind.wrap IntKind.i64 (j + 1))) else False else False else False else False else stQN R sp i v j = stQN R sp i v j ∧ E (Exit.exit (2)) (stQN R sp i v j)) := by kernel_rfl
def fQN (l : List (List Int)) (sp : List (List D)) (i : Nat) : LSum := fun Q x => cond (decide (i < l.length)) (ZcH [0, 2, 3, 4] [] (fun j => stQN (mZ l) sp i false j) (fun j => stQN (mZ l) sp i false j) i (fun j => Zb6 ((l.getD i []).getD 0 0) ((l.getD i []).getD 1 0) ((l.getD i []).getD 2 0) (l.getD j [])) .ret (.exit 2) Q x) False
theorem kQN {l : List (List Int)} {sp : List (List D)} (hw : wid 3 l) (hn : l.length ≤ 9223372036854775807) {i : Nat} (Q : Exit → X → Prop) (x : X) (h : fQN l sp i Q x) : XWP Tryz.prog (.loop (Zak Tryz.f122 1)) Q x := by
  obtain ⟨hi, h⟩ := Zaf h
  have hi := of_decide_eq_true hi
  refine ZbW (H := hkA band bor [] []) (sw := []) (V := ZgV (mZ l) sp i) (VE := ZgV (mZ l) sp i) (ZaI .nil) mixed (Zae rfl) (Zjk (mZ l) sp i) (Zjk (mZ l) sp i) _ _ _ _ _ _ (fun j hl N E h1 h2 => ?_) (fun N E h1 => ?_) Q x h
  · rw [rQN]
    have wi : IntKind.wrap .i64 ((j : Int) + 1) = ((j + 1 : Nat) : Int) := Zai (n := 1) (by omega)
    have hjl : j < l.length := by omega
    have a1 : isJ [IntKind.i64] ((mZ l).getD i []) = true := Zap (j := 0) (n := 1) hw hi (by omega)
    have a2 : isJ [IntKind.i64] (List.drop 1 ((mZ l).getD i [])) = true := Zap (j := 1) (n := 1) hw hi (by omega)
    have b1 : isJ [IntKind.i64] ((mZ l).getD j []) = true := Zap (j := 0) (n := 1) hw hjl (by omega)
    have b2 : isJ [IntKind.i64] (List.drop 1 ((mZ l).getD j [])) = true := Zap (j := 1) (n := 1) hw hjl (by omega)
    simp only [Zag, Int.ofNat_lt, hl, hi, hjl, decide_true, cond_true, Int.natCast_nonneg, Bool.and_self, Int.toNat_natCast, a1, a2, b1, b2, List.drop_zero, Zay, Zct, true_and, wi]
    unfold Zb6 at h1 h2
    revert h1 h2
    generalize ((l.getD j []).getD 0 0 == (l.getD i []).getD 0 0) = p1
    generalize ((l.getD j []).getD 1 0 == (l.getD i []).getD 1 0) = p2
    cases p1 <;> cases p2 <;> intro h1 h2 <;> first | exact h1 rfl | exact h2 rfl
  · rw [rQN]
    simp only [Zag, Int.ofNat_lt, Nat.lt_irrefl, decide_false, cond_false, true_and]
    exact h1
theorem rQM (l : List (List Int)) (sp : List (List D)) (n : Nat) (N : X → Prop) (E : Exit → X → Prop) : (Zcn Tryz.prog (hkA band bor [(166, sWN), (69, sB clk)] [(7, fQN l sp n)]) Tryz.f122 0 [] [0, 2, 3] [] (Zhb (mZ l) sp) (Zhb (mZ l) sp) N E (stQM (mZ l) sp false (n : Int))) = (bif decide (@Nat.cast Int _ n < @Nat.cast Int _ (List.length (mZ l))) then bif decide (0 ≤ @Nat.cast Int _ n) && decide (@Nat.cast Int _ n < @Nat.cast Int _ (List.length (mZ l))) then bif isJ [IntKind.i64] (List.drop (0) (List.getD (mZ l) (Int.toNat (@Nat.cast Int _ n)) [])) then bif decide (0 ≤ @Nat.cast Int _ n) && decide (@Nat.cast Int _ n < @Nat.cast Int _ (List.length (mZ l))) then bif isJ [IntKind.i64] (List.drop (1) (List.getD (mZ l) (Int.toNat (@Nat.cast Int _ n)) [])) then bif !wnm (hdJ (List.drop (0) (List.getD (mZ l) (Int.toNat (@Nat.cast Int _ n)) []))) (hdJ (List.drop (1) (List.getD (mZ l) (Int.toNat (@Nat.cast Int _ n)) []))) then stQM (mZ l) sp false (@Nat.cast Int _ n) = stQM (mZ l) sp false (@Nat.cast Int _ n) ∧ E Exit.ret (stQM (mZ l) sp false (@Nat.cast Int _ n)) else bif decide (0 ≤ @Nat.cast Int _ n) && decide (@Nat.cast Int _ n < @Nat.cast Int _ (List.length (mZ l))) then bif isJ [IntKind.i64] (List.drop (2) (List.getD (mZ l) (Int.toNat (@Nat.cast Int _ n)) [])) then bif !clk (hdJ (List.drop (2) (List.getD (mZ l) (Int.toNat (@Nat.cast Int _ n)) []))) then stQM (mZ l) sp false (@Nat.cast Int _ n) = stQM (mZ l) sp false (@Nat.cast Int _ n) ∧ E Exit.ret (stQM (mZ l) sp false (@Nat.cast Int _ n)) else bif decide (n < List.length l) then stQN (mZ l) sp (@Nat.cast Int _ n) false (0) = stQN (mZ l) sp (@Nat.cast Int _ n) false (0) ∧ (∀ (i : Nat), firstAt (fun j => Zb6 (List.getD (List.getD l n []) (0) (0)) (List.getD (List.getD l n []) (1) (0)) (List.getD (List.getD l n []) (2) (0)) (List.getD l j [])) n i → stQM (mZ l) sp false (@Nat.cast Int _ n) = stQM (mZ l) sp false (@Nat.cast Int _ n) ∧ E Exit.ret (stQM (mZ l) sp false (@Nat.cast Int _ n))) ∧ (noneTo (fun j => Zb6 (List.getD (List.getD l n []) (0) (0)) (List.getD (List.getD l n []) (1) (0)) (List.getD (List.getD l n []) (2) (0)) (List.getD l j [])) n → stQM (mZ l) sp false (IntKind.wrap IntKind.i64 (@Nat.cast Int _ n + 1)) = stQM (mZ l) sp false (IntKind.wrap IntKind.i64 (@Nat.cast Int _ n + 1)) ∧ N (stQM (mZ l) sp false (IntKind.wrap IntKind.i64 (@Nat.cast Int _ n + 1)))) else False else False else False else False else False else False else False else stQM (mZ l) sp false (@Nat.cast Int _ n) = stQM (mZ l) sp false (@Nat.cast Int _ n) ∧ E (Exit.exit (0)) (stQM (mZ l) sp false (@Nat.cast Int _ n))) := by kernel_rfl
def fQM (l : List (List Int)) (sp : List (List D)) : LSum := ZcH [0, 2, 3] [] (fun i => stQM (mZ l) sp false i) (fun i => stQM (mZ l) sp false i) l.length (badR l) .ret (.exit 0)
theorem Zqt {l : List (List Int)} {sp : List (List D)} {n : Nat} (h : ∀ Q x, fQN l sp n Q x → XWP Tryz.prog (.loop (Zak Tryz.f122 1)) Q x) (L : List (FuncId × Spec)) : Zau Tryz.prog (hkA band bor L [(7, fQN l sp n)]) (Zak Tryz.f122 0) := fun b hb s hs Q x hq => by
  have e : Za1 (Zak Tryz.f122 0) = [Zak Tryz.f122 1] := by kernel_rfl
  rw [e] at hb
  have hb := List.mem_singleton.1 hb
  subst hb
  have e2 : Zby (Zak Tryz.f122 1) = 7 := by kernel_rfl
  rw [e2] at hs
  have hs' : some (fQN l sp n) = some s := by simpa [Zc0, hkl, hkA, Zba] using hs
  cases hs'
  exact h Q x hq
theorem kQM {l : List (List Int)} {sp : List (List D)} (hw : wid 3 l) (hn : l.length ≤ 9223372036854775807) (Q : Exit → X → Prop) (x : X) (h : fQM l sp Q x) : XWP Tryz.prog (.loop (Zak Tryz.f122 0)) Q x := by
  refine Zjs (sw := []) (V := Zhb (mZ l) sp) (VE := Zhb (mZ l) sp) mixed (ZjB (mZ l) sp) (ZjB (mZ l) sp) _ _ _ _ _ _ (fun i hl => ⟨_, ZaI (.cons oWN (.cons ZgD .nil)), Zqt (sp := sp) (n := i) (kQN hw hn) _, fun N E h1 h2 => ?_⟩) ⟨_, ZaI (.cons oWN (.cons ZgD .nil)), Zqt (sp := sp) (n := l.length) (kQN hw hn) _, fun N E h1 => ?_⟩ Q x h
  · rw [rQM]
    have wi : IntKind.wrap .i64 ((i : Int) + 1) = ((i + 1 : Nat) : Int) := Zai (n := 1) (by omega)
    have a1 : isJ [IntKind.i64] ((mZ l).getD i []) = true := Zap (j := 0) (n := 1) hw hl (by omega)
    have a2 : isJ [IntKind.i64] (List.drop 1 ((mZ l).getD i [])) = true := Zap (j := 1) (n := 1) hw hl (by omega)
    have a3 : isJ [IntKind.i64] (List.drop 2 ((mZ l).getD i [])) = true := Zap (j := 2) (n := 1) hw hl (by omega)
    simp only [Zag, Int.ofNat_lt, hl, decide_true, cond_true, Int.natCast_nonneg, Bool.and_self, Int.toNat_natCast, a1, a2, a3, List.drop_zero, Zay, Zct, true_and, wi]
    unfold badR ok1 at h1 h2
    unfold wnm
    have ha : ∀ i', firstAt (fun j => Zb6 ((l.getD i []).getD 0 0) ((l.getD i []).getD 1 0) ((l.getD i []).getD 2 0) (l.getD j [])) i i' → (l.take i).any (Zb6 ((l.getD i []).getD 0 0) ((l.getD i []).getD 1 0) ((l.getD i []).getD 2 0)) = true := fun i' hi' => ZrE (by omega) hi'
    have hb : noneTo (fun j => Zb6 ((l.getD i []).getD 0 0) ((l.getD i []).getD 1 0) ((l.getD i []).getD 2 0) (l.getD j [])) i → (l.take i).any (Zb6 ((l.getD i []).getD 0 0) ((l.getD i []).getD 1 0) ((l.getD i []).getD 2 0)) = false := fun hi' => ZpD (by omega) hi'
    revert h1 h2
    cases lab ((l.getD i []).getD 0 0) <;> cases ix4 ((l.getD i []).getD 1 0) <;> cases clk ((l.getD i []).getD 2 0) <;> intro h1 h2
    all_goals first | exact h1 rfl | exact ⟨fun i' hi' => h1 (by rw [ha i' hi']; rfl), fun hi' => h2 (by rw [hb hi']; rfl)⟩
  · rw [rQM]
    simp only [Zag, Int.ofNat_lt, Nat.lt_irrefl, decide_false, cond_false, true_and]
    exact h1
theorem eQM (l : List (List Int)) (sp : List (List D)) (K : DV → Prop) : (askL Tryz.prog [] [(2, fQM l sp)] Tryz.f122 [dS 3 (mZ l) sp] K) = (stQM (mZ l) sp false (0) = stQM (mZ l) sp false (0) ∧ (∀ (i : Nat), firstAt (badR l) (List.length l) i → K (DV.c (D.v (Value.bool false)))) ∧ (noneTo (badR l) (List.length l) → K (DV.c (D.v (Value.bool (decide (@Nat.cast Int _ (List.length (mZ l)) ≤ 16))))))) := by kernel_rfl
theorem oQM : Zac Tryz.prog 122 sRM := o_of Tryz.func122 (by kernel_rfl) rfl fun ds Q h => by
  unfold sRM at h; split at h
  · rename_i R sp
    obtain ⟨h1, h2⟩ := Zaf h
    obtain ⟨e1, w1, n1⟩ := Zah h1
    rw [e1]
    rw [← Zat R] at n1
    generalize toZ R = l at *
    refine ⟨_, ZaH (l := []) (m := [(2, fQM l sp)]) .nil mixed (ZqH rfl (by kernel_rfl) (by kernel_rfl) (kQM w1 n1)) Tryz.func122 rfl rfl rfl ?_, rfl, rfl, h2⟩
    rw [eQM]
    refine ⟨by trivial, fun i hi => ?_, fun hn => ?_⟩
    · rw [rmay, hi.b]; simp
    · rw [rmay, hn.b, Zag]; by_cases hl : l.length ≤ 16 <;> simp [hl] <;> omega
  · exact h.elim
end

section
open Go Go.Proofs
def wdv (a b c d : List (List Int)) (r : List Int) : List Int := wrd (selA (r.getD 0 0) a b c d) (r.getD 1 0)
def thv (a b c d : List (List Int)) (r : List Int) : Bool := thr a.length b.length c.length d.length (r.getD 0 0) (r.getD 1 0)
def gets (a b c d l : List (List Int)) : Bool := amay a b c d && (rmay l && l.all (thv a b c d))
def gotW (a b c d l : List (List Int)) : List (List Int) := bif gets a b c d l then l.map (wdv a b c d) else []
def badC (a b c d : List (List Int)) (r : List Int) : Bool := (wdv a b c d r).getD 1 0 != r.getD 2 0
def sWo : Spec := fun ds Q => match ds with | [.c (.p 0 [.s 0 3 R0 p0, .s 0 3 R1 p1, .s 0 3 R2 p2, .s 0 3 R3 p3] 0), .c (.s 0 3 R sp)] => cond (okA R0 R1 R2 R3 && okZ 3 R) (Q (.tup [oS 3 (mZ (gotW (toZ R0) (toZ R1) (toZ R2) (toZ R3) (toZ R))) [], B (gets (toZ R0) (toZ R1) (toZ R2) (toZ R3) (toZ R))])) False | _ => False
def sRT : Spec := fun ds Q => match ds with | [.agg [.s 0 3 R0 p0, .s 0 3 R1 p1, .s 0 3 R2 p2, .s 0 3 R3 p3], .c (.s 0 3 R sp)] => cond (okA R0 R1 R2 R3 && okZ 3 R) (Q (B ((toZ R).all (thv (toZ R0) (toZ R1) (toZ R2) (toZ R3))))) False | _ => False
def stRT (R0 : List (List D)) (p0 : List (List D)) (R1 : List (List D)) (p1 : List (List D)) (R2 : List (List D)) (p2 : List (List D)) (R3 : List (List D)) (p3 : List (List D)) (R : List (List D)) (sp : List (List D)) (v : Bool) (i : Int) : X := ⟨mkT 25 [(1, aS 3 R sp), (2, .c (.rp 3 0 4 0 0)), (4, ab v), (5, ai i)], [(3, .bx 0 4 [.d (.s 0 3 R0 p0), .d (.s 0 3 R1 p1), .d (.s 0 3 R2 p2), .d (.s 0 3 R3 p3)])], [], []⟩
def ZgZ (R0 : List (List D)) (p0 : List (List D)) (R1 : List (List D)) (p1 : List (List D)) (R2 : List (List D)) (p2 : List (List D)) (R3 : List (List D)) (p3 : List (List D)) (R : List (List D)) (sp : List (List D)) : Vw := fun y K => wB y 4 fun v => wI y 5 fun i => K (stRT R0 p0 R1 p1 R2 p2 R3 p3 R sp v i)
theorem ZjJ (R0 : List (List D)) (p0 : List (List D)) (R1 : List (List D)) (p1 : List (List D)) (R2 : List (List D)) (p2 : List (List D)) (R3 : List (List D)) (p3 : List (List D)) (R : List (List D)) (sp : List (List D)) : VwOK (ZgZ R0 p0 R1 p1 R2 p2 R3 p3 R sp) := fun y K h => by
  unfold ZgZ at h
  obtain ⟨v, h⟩ := Zdf h
  obtain ⟨i, h⟩ := Zbt h
  exact ⟨_, h⟩
theorem rRT (R0 : List (List D)) (p0 : List (List D)) (R1 : List (List D)) (p1 : List (List D)) (R2 : List (List D)) (p2 : List (List D)) (R3 : List (List D)) (p3 : List (List D)) (R : List (List D)) (sp : List (List D)) (v : Bool) (i : Int) (N : X → Prop) (E : Exit → X → Prop) : (Zbb Tryz.prog (hkA band bor [(164, ZeH)] []) Tryz.f165 0 [] [1, 2, 4, 5] [3] (ZgZ R0 p0 R1 p1 R2 p2 R3 p3 R sp) (fun _ => ZgZ R0 p0 R1 p1 R2 p2 R3 p3 R sp) N E (stRT R0 p0 R1 p1 R2 p2 R3 p3 R sp v i)) = (bif decide (i < @Nat.cast Int _ (List.length R)) then bif decide (0 ≤ i) && decide (i < @Nat.cast Int _ (List.length R)) then bif isJ [IntKind.i64] (List.drop (0) (List.getD R (Int.toNat i) [])) then bif decide (0 ≤ i) && decide (i < @Nat.cast Int _ (List.length R)) then bif isJ [IntKind.i64] (List.drop (1) (List.getD R (Int.toNat i) [])) then bif !thr (List.length R0) (List.length R1) (List.length R2) (List.length R3) (hdJ (List.drop (0) (List.getD R (Int.toNat i) []))) (hdJ (List.drop (1) (List.getD R (Int.toNat i) []))) then stRT R0 p0 R1 p1 R2 p2 R3 p3 R sp false i = stRT R0 p0 R1 p1 R2 p2 R3 p3 R sp false i ∧ E Exit.ret (stRT R0 p0 R1 p1 R2 p2 R3 p3 R sp false i) else stRT R0 p0 R1 p1 R2 p2 R3 p3 R sp v (IntKind.wrap IntKind.i64 (i + 1)) = stRT R0 p0 R1 p1 R2 p2 R3 p3 R sp v (IntKind.wrap IntKind.i64 (i + 1)) ∧ N (stRT R0 p0 R1 p1 R2 p2 R3 p3 R sp v (IntKind.wrap IntKind.i64 (i + 1))) else False else False else False else False else stRT R0 p0 R1 p1 R2 p2 R3 p3 R sp v i = stRT R0 p0 R1 p1 R2 p2 R3 p3 R sp v i ∧ E (Exit.exit (0)) (stRT R0 p0 R1 p1 R2 p2 R3 p3 R sp v i)) := by kernel_rfl
end

section
open Go Go.Proofs
def fRT (a b c d l : List (List Int)) (sp p0 p1 p2 p3 : List (List D)) : LSum := ZcH [1, 2, 4, 5] [3] (fun i => stRT (mZ a) p0 (mZ b) p1 (mZ c) p2 (mZ d) p3 (mZ l) sp false i) (fun i => stRT (mZ a) p0 (mZ b) p1 (mZ c) p2 (mZ d) p3 (mZ l) sp false i) (l.length) (fun i => !thv a b c d (l.getD i [])) .ret (.exit 0)
theorem kRT {a b c d l : List (List Int)} {sp p0 p1 p2 p3 : List (List D)} (ha : wid 3 a) (hb : wid 3 b) (hc : wid 3 c) (hd : wid 3 d) (hw : wid 3 l) (hn : l.length ≤ 9223372036854775807) (Q : Exit → X → Prop) (x : X) (h : fRT a b c d l sp p0 p1 p2 p3 Q x) : XWP Tryz.prog (.loop (Zak Tryz.f165 0)) Q x := by
  refine Zbj (sw := []) (V := ZgZ (mZ a) p0 (mZ b) p1 (mZ c) p2 (mZ d) p3 (mZ l) sp) (VE := fun _ => ZgZ (mZ a) p0 (mZ b) p1 (mZ c) p2 (mZ d) p3 (mZ l) sp) mixed (ZjJ (mZ a) p0 (mZ b) p1 (mZ c) p2 (mZ d) p3 (mZ l) sp) (fun _ => ZjJ (mZ a) p0 (mZ b) p1 (mZ c) p2 (mZ d) p3 (mZ l) sp) _ _ _ _ _ _ (fun i hl => ⟨hkA band bor [(164, ZeH)] [], ZaI (.cons ZjM .nil), Zae rfl, fun N E h1 h2 => ?_⟩) ⟨hkA band bor [(164, ZeH)] [], ZaI (.cons ZjM .nil), Zae rfl, fun N E h1 => ?_⟩ Q x h
  · rw [rRT]
    have wi : IntKind.wrap .i64 ((i : Int) + 1) = ((i + 1 : Nat) : Int) := Zai (n := 1) (by omega)
    have a0 : isJ [IntKind.i64] ((mZ l).getD i []) = true := Zap (j := 0) (n := 1) hw hl (by omega)
    have a1 : isJ [IntKind.i64] (List.drop 1 ((mZ l).getD i [])) = true := Zap (j := 1) (n := 1) hw hl (by omega)
    have a2 : isJ [IntKind.i64] (List.drop 2 ((mZ l).getD i [])) = true := Zap (j := 2) (n := 1) hw hl (by omega)
    have a3 : isJ [IntKind.i64, IntKind.i64, IntKind.i64] ((mZ l).getD i []) = true := Zap (j := 0) (n := 3) hw hl (by omega)
    simp only [Zag, Int.ofNat_lt, hl, decide_true, cond_true, Int.natCast_nonneg, Bool.and_self, Int.toNat_natCast, a0, a1, a2, a3, List.drop_zero, Zay, Zct, ZaK, ZaM, true_and, wi]
    unfold thv at h1 h2
    cases ht : thr a.length b.length c.length d.length ((l.getD i []).getD 0 0) ((l.getD i []).getD 1 0) with
    | false => exact h1 (by rw [ht]; rfl)
    | true => exact h2 (by rw [ht]; rfl)
  · rw [rRT]
    simp only [Zag, Int.ofNat_lt, Nat.lt_irrefl, decide_false, cond_false, true_and]
    exact h1
theorem s4 {R0 R1 R2 R3 R : List (List D)} (h : (okA R0 R1 R2 R3 && okZ 3 R) = true) : (R0 = mZ (toZ R0) ∧ wid 3 (toZ R0) ∧ R1 = mZ (toZ R1) ∧ wid 3 (toZ R1) ∧ R2 = mZ (toZ R2) ∧ wid 3 (toZ R2) ∧ R3 = mZ (toZ R3) ∧ wid 3 (toZ R3)) ∧ R = mZ (toZ R) ∧ wid 3 (toZ R) ∧ (toZ R).length ≤ 9223372036854775807 := by
  rw [Bool.and_eq_true] at h
  obtain ⟨h1, h2⟩ := h
  obtain ⟨q0, q1, q2, q3⟩ := Zcl h1
  obtain ⟨a1, a2, _⟩ := Zah q0
  obtain ⟨b1, b2, _⟩ := Zah q1
  obtain ⟨c1, c2, _⟩ := Zah q2
  obtain ⟨d1, d2, _⟩ := Zah q3
  obtain ⟨e1, e2, e3⟩ := Zah h2
  exact ⟨⟨a1, a2, b1, b2, c1, c2, d1, d2⟩, e1, e2, by rw [Zat]; exact e3⟩
theorem eRT (a b c d l : List (List Int)) (sp p0 p1 p2 p3 : List (List D))  (K : DV → Prop) : (askL Tryz.prog [] [(2, fRT a b c d l sp p0 p1 p2 p3)] Tryz.f165 [dA (mZ a) p0 (mZ b) p1 (mZ c) p2 (mZ d) p3, dS 3 (mZ l) sp] K) = (stRT (mZ a) p0 (mZ b) p1 (mZ c) p2 (mZ d) p3 (mZ l) sp false (0) = stRT (mZ a) p0 (mZ b) p1 (mZ c) p2 (mZ d) p3 (mZ l) sp false (0) ∧ (∀ (i : Nat), firstAt (fun i => !thv a b c d (List.getD l i [])) (List.length l) i → K (DV.c (D.v (Value.bool false)))) ∧ (noneTo (fun i => !thv a b c d (List.getD l i [])) (List.length l) → K (DV.c (D.v (Value.bool true))))) := by kernel_rfl
end

section
open Go Go.Proofs
def cv (a b c d l : List (List Int)) : Bool := gets a b c d l && l.any (badC a b c d)
theorem ZrH {l : List (List Int)} {p : List Int → Bool} (h : l.any (fun r => !p r) = true) : l.all p = false := by
  rw [List.all_eq_not_any_not, h]; rfl
theorem Zp1 {l : List (List Int)} {p : List Int → Bool} (h : l.any (fun r => !p r) = false) : l.all p = true := by
  rw [List.all_eq_not_any_not, h]; rfl
theorem oRT : Zac Tryz.prog 165 sRT := o_of Tryz.func165 (by kernel_rfl) rfl fun ds Q h => by
  unfold sRT at h; split at h
  · rename_i R0 p0 R1 p1 R2 p2 R3 p3 R sp
    obtain ⟨h1, h2⟩ := Zaf h
    have hA := h1
    rw [Bool.and_eq_true] at hA
    obtain ⟨⟨a1, a2, b1, b2, c1, c2, d1, d2⟩, e1, e2, e3⟩ := s4 h1
    have hA' := hA
    rw [a1, b1, c1, d1, e1] at hA'
    rw [a1, b1, c1, d1, e1]
    generalize toZ R0 = a at *
    generalize toZ R1 = b at *
    generalize toZ R2 = c at *
    generalize toZ R3 = d at *
    generalize toZ R = l at *
    refine ⟨_, ZaH (l := []) (m := [(2, fRT a b c d l sp p0 p1 p2 p3)]) .nil mixed (Zbo rfl (by kernel_rfl) (kRT a2 b2 c2 d2 e2 e3)) Tryz.func165 rfl rfl rfl ?_, rfl, rfl, h2⟩
    rw [eRT]
    refine ⟨by trivial, fun i hi => ?_, fun hn => ?_⟩
    · have := hi.any (l := l) (d := []) (p := fun r => !thv a b c d r)
      rw [ZrH this]
    · have := hn.any (l := l) (d := []) (p := fun r => !thv a b c d r)
      rw [Zp1 this]
  · exact h.elim
end

section
open Go Go.Proofs
def plc (x y : Int) : Int := IntKind.wrap .i64 (IntKind.wrap .i64 (4 * x) + y)
theorem ePl (x y : Int) (K : DV → Prop) : (ask Tryz.prog [] Tryz.f141 [I x, I y] K) = (K (DV.c (D.v (Value.int IntKind.i64 (IntKind.wrap IntKind.i64 (IntKind.wrap IntKind.i64 (4 * x) + y)))))) := by kernel_rfl
def sPl : Spec := fun ds Q => match ds with | [.c (.v (.int .i64 x)), .c (.v (.int .i64 y))] => Q (I (plc x y)) | _ => False
theorem oPl : Zac Tryz.prog 141 sPl := o_of Tryz.func141 (by kernel_rfl) rfl fun ds Q h => by
  unfold sPl at h; split at h
  · rename_i x y
    refine ⟨_, Zaj .nil mixed Tryz.func141 rfl rfl rfl ?_, rfl, rfl, h⟩
    rw [ePl]; rfl
  · exact h.elim
def ior (a b : Int) : Int := bif a != 0 then a else b
theorem eOr (a b : Int) (K : DV → Prop) : (ask Tryz.prog [] Tryz.f180 [dS 1 [[vI a], [vI b]] []] K) = (bif a != 0 then K (DV.c (D.v (Value.int IntKind.i64 a))) else bif b != 0 then K (DV.c (D.v (Value.int IntKind.i64 b))) else K (DV.c (D.v (Value.int IntKind.i64 (0))))) := by kernel_rfl
def sOr : Spec := fun ds Q => match ds with | [.c (.s 0 1 [[.v (.int .i64 a)], [.v (.int .i64 b)]] [])] => Q (I (ior a b)) | _ => False
theorem oOr : Zac Tryz.prog 180 sOr := o_of Tryz.func180 (by kernel_rfl) rfl fun ds Q h => by
  unfold sOr at h; split at h
  · rename_i a b
    refine ⟨_, Zaj .nil mixed Tryz.func180 rfl rfl rfl ?_, rfl, rfl, h⟩
    rw [eOr]; unfold ior
    cases ha : (a != 0) with
    | true => rfl
    | false =>
      by_cases hb : b = 0
      · subst hb; rfl
      · have : (b != 0) = true := by simpa using hb
        rw [this]; rfl
  · exact h.elim
theorem eRow (a b c x y z : Int) (K : DV → Prop) : (ask Tryz.prog [(180, sOr)] Tryz.f139 [.agg [vI a, vI b, vI c], .agg [vI x, vI y, vI z]] K) = (K (DV.c (D.v (Value.int IntKind.i64 (ior (IntKind.wrap IntKind.i64 (a - x)) (IntKind.wrap IntKind.i64 (b - y))))))) := by kernel_rfl
def rw3 (r : List Int) (a b : Int) : Int := ior (IntKind.wrap .i64 (r.getD 0 0 - a)) (IntKind.wrap .i64 (r.getD 1 0 - b))
def sRow : Spec := fun ds Q => match ds with | [.agg [.v (.int .i64 a), .v (.int .i64 b), .v (.int .i64 c)], .agg [.v (.int .i64 x), .v (.int .i64 y), .v (.int .i64 z)]] => Q (I (rw3 [a, b, c] x y)) | _ => False
theorem oRow : Zac Tryz.prog 139 sRow := o_of Tryz.func139 (by kernel_rfl) rfl fun ds Q h => by
  unfold sRow at h; split at h
  · rename_i a b c x y z
    refine ⟨_, Zaj (.cons oOr .nil) mixed Tryz.func139 rfl rfl rfl ?_, rfl, rfl, h⟩
    rw [eRow]; rfl
  · exact h.elim
end

section
open Go Go.Proofs
def okw (r : List Int) : Bool := bif lab (r.getD 0 0) then bif ix4 (r.getD 1 0) then val8 (r.getD 2 0) else false else false
def Ze8 (l : List (List Int)) (i : Nat) : Bool := !okw (l.getD i []) || (decide (0 < i) && decide (rw3 (l.getD (i - 1) []) ((l.getD i []).getD 0 0) ((l.getD i []).getD 1 0) ≥ 0))
def Zft (l : List (List Int)) : Bool := decide (l.length ≤ 16) && !(List.range l.length).any (Ze8 l)
def stWM (R sp : List (List D)) (v : Bool) (i : Int) : X := ⟨mkT 46 [(0, aS 3 R sp), (2, ab v), (5, aS 3 R sp), (6, ai R.length), (7, ai i)], [], [], []⟩
def vWM (R sp : List (List D)) : Vw := fun y K => wB y 2 fun v => wI y 7 fun i => K (stWM R sp v i)
theorem Zqp (R sp : List (List D)) : VwOK (vWM R sp) := fun y K h => by
  unfold vWM at h
  obtain ⟨v, h⟩ := Zdf h
  obtain ⟨i, h⟩ := Zbt h
  exact ⟨_, h⟩
theorem rWM (R sp : List (List D)) (v : Bool) (i : Int) (N : X → Prop) (E : Exit → X → Prop) : (Zcn Tryz.prog (hkA band bor [(64, sB lab), (153, sB ix4), (115, sB val8), (139, sRow)] []) Tryz.f106 0 [] [0, 2, 5, 6, 7] [] (vWM R sp) (vWM R sp) N E (stWM R sp v i)) = (bif decide (i < @Nat.cast Int _ (List.length R)) then bif decide (0 ≤ i) && decide (i < @Nat.cast Int _ (List.length R)) then bif isJ [IntKind.i64, IntKind.i64, IntKind.i64] (List.drop (0) (List.getD R (Int.toNat i) [])) then bif !lab (hdJ (List.drop (0) (List.getD R (Int.toNat i) []))) then stWM R sp false i = stWM R sp false i ∧ E Exit.ret (stWM R sp false i) else bif !ix4 (hdJ (List.tail (List.drop (0) (List.getD R (Int.toNat i) [])))) then stWM R sp false i = stWM R sp false i ∧ E Exit.ret (stWM R sp false i) else bif !val8 (hdJ (List.tail (List.tail (List.drop (0) (List.getD R (Int.toNat i) []))))) then stWM R sp false i = stWM R sp false i ∧ E Exit.ret (stWM R sp false i) else bif decide (i > 0) then bif decide (0 ≤ IntKind.wrap IntKind.i64 (i - 1)) && decide (IntKind.wrap IntKind.i64 (i - 1) < @Nat.cast Int _ (List.length R)) then bif isJ [IntKind.i64, IntKind.i64, IntKind.i64] (List.drop (0) (List.getD R (Int.toNat (IntKind.wrap IntKind.i64 (i - 1))) [])) then bif decide (rw3 [hdJ (List.drop (0) (List.getD R (Int.toNat (IntKind.wrap IntKind.i64 (i - 1))) [])), hdJ (List.tail (List.drop (0) (List.getD R (Int.toNat (IntKind.wrap IntKind.i64 (i - 1))) []))), hdJ (List.tail (List.tail (List.drop (0) (List.getD R (Int.toNat (IntKind.wrap IntKind.i64 (i - 1))) []))))] (hdJ (List.drop (0) (List.getD R (Int.toNat i) []))) (hdJ (List.tail (List.drop (0) (List.getD R (Int.toNat i) [])))) ≥ 0) then stWM R sp false i = stWM R sp false i ∧ E Exit.ret (stWM R sp false i) else stWM R sp v (IntKind.wrap IntKind.i64 (i + 1)) = stWM R sp v (IntKind.wrap IntKind.i64 (i + 1)) ∧ N (stWM R sp v (IntKind.wrap IntKind.i64 (i + 1))) else False else False else stWM R sp v (IntKind.wrap IntKind.i64 (i + 1)) = stWM R sp v (IntKind.wrap IntKind.i64 (i + 1)) ∧ N (stWM R sp v (IntKind.wrap IntKind.i64 (i + 1))) else False else False else stWM R sp v i = stWM R sp v i ∧ E (Exit.exit (0)) (stWM R sp v i)) := by kernel_rfl
def stWP (R sp : List (List D)) (v : Bool) (i : Int) : X := ⟨mkT 65 [(0, aS 3 R sp), (2, ab v), (3, ai i)], [], [], []⟩
def vWP (R sp : List (List D)) : Vw := fun y K => wB y 2 fun v => wI y 3 fun i => K (stWP R sp v i)
theorem Zqn (R sp : List (List D)) : VwOK (vWP R sp) := fun y K h => by
  unfold vWP at h
  obtain ⟨v, h⟩ := Zdf h
  obtain ⟨i, h⟩ := Zbt h
  exact ⟨_, h⟩
theorem rWP (R sp : List (List D)) (v : Bool) (i : Int) (N : X → Prop) (E : Exit → X → Prop) : (Zcn Tryz.prog (hkA band bor [(166, sWN), (91, sB val8), (141, sPl)] []) Tryz.f123 0 [] [0, 2, 3] [] (vWP R sp) (vWP R sp) N E (stWP R sp v i)) = (bif decide (i < @Nat.cast Int _ (List.length R)) then bif decide (0 ≤ i) && decide (i < @Nat.cast Int _ (List.length R)) then bif isJ [IntKind.i64] (List.drop (0) (List.getD R (Int.toNat i) [])) then bif decide (0 ≤ i) && decide (i < @Nat.cast Int _ (List.length R)) then bif isJ [IntKind.i64] (List.drop (1) (List.getD R (Int.toNat i) [])) then bif !wnm (hdJ (List.drop (0) (List.getD R (Int.toNat i) []))) (hdJ (List.drop (1) (List.getD R (Int.toNat i) []))) then stWP R sp false i = stWP R sp false i ∧ E Exit.ret (stWP R sp false i) else bif decide (0 ≤ i) && decide (i < @Nat.cast Int _ (List.length R)) then bif isJ [IntKind.i64] (List.drop (2) (List.getD R (Int.toNat i) [])) then bif !val8 (hdJ (List.drop (2) (List.getD R (Int.toNat i) []))) then stWP R sp false i = stWP R sp false i ∧ E Exit.ret (stWP R sp false i) else bif decide (i > 0) then bif decide (0 ≤ i) && decide (i < @Nat.cast Int _ (List.length R)) then bif isJ [IntKind.i64] (List.drop (0) (List.getD R (Int.toNat i) [])) then bif decide (0 ≤ i) && decide (i < @Nat.cast Int _ (List.length R)) then bif isJ [IntKind.i64] (List.drop (1) (List.getD R (Int.toNat i) [])) then bif decide (0 ≤ IntKind.wrap IntKind.i64 (i - 1)) && decide (IntKind.wrap IntKind.i64 (i - 1) < @Nat.cast Int _ (List.length R)) then bif isJ [IntKind.i64] (List.drop (0) (List.getD R (Int.toNat (IntKind.wrap IntKind.i64 (i - 1))) [])) then bif decide (0 ≤ IntKind.wrap IntKind.i64 (i - 1)) && decide (IntKind.wrap IntKind.i64 (i - 1) < @Nat.cast Int _ (List.length R)) then bif isJ [IntKind.i64] (List.drop (1) (List.getD R (Int.toNat (IntKind.wrap IntKind.i64 (i - 1))) [])) then bif decide (plc (hdJ (List.drop (0) (List.getD R (Int.toNat i) []))) (hdJ (List.drop (1) (List.getD R (Int.toNat i) []))) ≤ plc (hdJ (List.drop (0) (List.getD R (Int.toNat (IntKind.wrap IntKind.i64 (i - 1))) []))) (hdJ (List.drop (1) (List.getD R (Int.toNat (IntKind.wrap IntKind.i64 (i - 1))) [])))) then stWP R sp false i = stWP R sp false i ∧ E Exit.ret (stWP R sp false i) else stWP R sp v (IntKind.wrap IntKind.i64 (i + 1)) = stWP R sp v (IntKind.wrap IntKind.i64 (i + 1)) ∧ N (stWP R sp v (IntKind.wrap IntKind.i64 (i + 1))) else False else False else False else False else False else False else False else False else stWP R sp v (IntKind.wrap IntKind.i64 (i + 1)) = stWP R sp v (IntKind.wrap IntKind.i64 (i + 1)) ∧ N (stWP R sp v (IntKind.wrap IntKind.i64 (i + 1))) else False else False else False else False else False else False else stWP R sp v i = stWP R sp v i ∧ E (Exit.exit (0)) (stWP R sp v i)) := by kernel_rfl
theorem ZjL {m : Nat} (h : m + 1 ≤ 9223372036854775807) : IntKind.wrap .i64 (((m + 1 : Nat) : Int) - 1) = ((m : Nat) : Int) := by rw [IntKind.wrap_i64]; omega
def fWM (l : List (List Int)) (sp : List (List D)) : LSum := ZcH [0, 2, 5, 6, 7] [] (fun i => stWM (mZ l) sp false i) (fun i => stWM (mZ l) sp false i) l.length (Ze8 l) .ret (.exit 0)
theorem kWM {l : List (List Int)} {sp : List (List D)} (hw : wid 3 l) (hn : l.length ≤ 9223372036854775807) (Q : Exit → X → Prop) (x : X) (h : fWM l sp Q x) : XWP Tryz.prog (.loop (Zak Tryz.f106 0)) Q x := by
  refine ZbW (H := hkA band bor [(64, sB lab), (153, sB ix4), (115, sB val8), (139, sRow)] []) (sw := []) (V := vWM (mZ l) sp) (VE := vWM (mZ l) sp) (ZaI (.cons oLab (.cons oIdx (.cons oVal (.cons oRow .nil))))) mixed (Zae rfl) (Zqp (mZ l) sp) (Zqp (mZ l) sp) _ _ _ _ _ _ (fun i hl N E h1 h2 => ?_) (fun N E h1 => ?_) Q x h
  · rw [rWM]
    have wi : IntKind.wrap .i64 ((i : Int) + 1) = ((i + 1 : Nat) : Int) := Zai (n := 1) (by omega)
    have hj1 : isJ [IntKind.i64, IntKind.i64, IntKind.i64] ((mZ l).getD i []) = true := Zap (j := 0) (n := 3) hw hl (by omega)
    have hz : decide (((i : Nat) : Int) > 0) = decide (0 < i) := by by_cases h : 0 < i <;> simp [h]
    simp only [Zag, Int.ofNat_lt, hl, decide_true, cond_true, Int.natCast_nonneg, Bool.and_self, Int.toNat_natCast, ZaK, ZaM, hj1, List.drop_zero, Zay, true_and, wi, hz]
    unfold Ze8 okw at h1 h2
    revert h1 h2
    generalize lab ((l.getD i []).getD 0 0) = p1
    generalize ix4 ((l.getD i []).getD 1 0) = p2
    generalize val8 ((l.getD i []).getD 2 0) = p3
    intro h1 h2
    cases p1
    · exact h1 rfl
    cases p2
    · exact h1 rfl
    cases p3
    · exact h1 rfl
    by_cases h0 : 0 < i
    · obtain ⟨m, rfl⟩ : ∃ m, i = m + 1 := ⟨i - 1, by omega⟩
      have hlm : m < l.length := by omega
      have hj2 : isJ [IntKind.i64, IntKind.i64, IntKind.i64] ((mZ l).getD m []) = true := Zap (j := 0) (n := 3) hw hlm (by omega)
      have wp := ZjL (m := m) (by omega)
      have hr : rw3 [(l.getD m []).getD 0 0, (l.getD m []).getD 1 0, (l.getD m []).getD 2 0] ((l.getD (m + 1) []).getD 0 0) ((l.getD (m + 1) []).getD 1 0) = rw3 (l.getD m []) ((l.getD (m + 1) []).getD 0 0) ((l.getD (m + 1) []).getD 1 0) := rfl
      simp only [h0, decide_true, cond_true, wp, Int.ofNat_lt, hlm, Int.natCast_nonneg, Bool.and_self, Int.toNat_natCast, hj2, Zay, ZaK, ZaM, hr, Nat.add_sub_cancel, Bool.not_true, Bool.true_and, Bool.false_or, cond_false] at h1 h2 ⊢
      cases hd : decide (rw3 (l.getD m []) ((l.getD (m + 1) []).getD 0 0) ((l.getD (m + 1) []).getD 1 0) ≥ 0) with
      | true => rw [hd] at h1; exact h1 rfl
      | false => rw [hd] at h2; exact h2 rfl
    · simp only [h0, decide_false, Bool.false_and, Bool.or_false, cond_true, Bool.not_true, cond_false] at h1 h2 ⊢
      exact h2 trivial
  · rw [rWM]
    simp only [Zag, Int.ofNat_lt, Nat.lt_irrefl, decide_false, cond_false, true_and]
    exact h1
theorem eWM (l : List (List Int)) (sp : List (List D)) (K : DV → Prop) : (askL Tryz.prog [] [(2, fWM l sp)] Tryz.f106 [dS 3 (mZ l) sp] K) = (stWM (mZ l) sp false (0) = stWM (mZ l) sp false (0) ∧ (∀ (i : Nat), firstAt (Ze8 l) (List.length l) i → K (DV.c (D.v (Value.bool false)))) ∧ (noneTo (Ze8 l) (List.length l) → K (DV.c (D.v (Value.bool (decide (@Nat.cast Int _ (List.length (mZ l)) ≤ 16))))))) := by kernel_rfl
def sWMy : Spec := fun ds Q => match ds with | [.c (.s 0 3 R sp)] => cond (okZ 3 R) (Q (B (Zft (toZ R)))) False | _ => False
theorem oWMy : Zac Tryz.prog 106 sWMy := o_of Tryz.func106 (by kernel_rfl) rfl fun ds Q h => by
  unfold sWMy at h; split at h
  · rename_i R sp
    obtain ⟨h1, h2⟩ := Zaf h
    obtain ⟨e1, w1, n1⟩ := Zah h1
    rw [e1]
    rw [← Zat R] at n1
    generalize toZ R = l at *
    refine ⟨_, ZaH (l := []) (m := [(2, fWM l sp)]) .nil mixed (Zbo rfl (by kernel_rfl) (kWM w1 n1)) Tryz.func106 rfl rfl rfl ?_, rfl, rfl, h2⟩
    rw [eWM]
    refine ⟨rfl, fun i hi => ?_, fun hn => ?_⟩
    · unfold Zft; rw [hi.b]; simp
    · unfold Zft; rw [hn.b]
      by_cases h : l.length ≤ 16 <;> simp [Zag, h] <;> omega
  · exact h.elim
def key (r : List Int) : Int := 4 * r.getD 0 0 + r.getD 1 0
def badP (l : List (List Int)) (i : Nat) : Bool := !okw (l.getD i []) || (decide (0 < i) && decide (plc ((l.getD i []).getD 0 0) ((l.getD i []).getD 1 0) ≤ plc ((l.getD (i - 1) []).getD 0 0) ((l.getD (i - 1) []).getD 1 0)))
def inW (r : List Int) : Prop := (0 ≤ r.getD 0 0 ∧ r.getD 0 0 ≤ 3) ∧ (0 ≤ r.getD 1 0 ∧ r.getD 1 0 ≤ 3)
theorem Zfs {x a b : Int} : upto x a b = true ↔ a ≤ x ∧ x ≤ b := by unfold upto; simp
theorem ZeV {r : List Int} (h : okw r = true) : inW r ∧ 0 ≤ r.getD 2 0 ∧ r.getD 2 0 ≤ 255 := by
  unfold okw at h
  cases h1 : lab (r.getD 0 0) with
  | false => rw [h1] at h; cases h
  | true =>
    cases h2 : ix4 (r.getD 1 0) with
    | false => rw [h1, h2] at h; cases h
    | true => rw [h1, h2] at h; exact ⟨⟨Zfs.1 h1, Zfs.1 h2⟩, Zfs.1 h⟩
theorem wrap_small {x : Int} (h : -9223372036854775808 ≤ x ∧ x ≤ 9223372036854775807) : IntKind.wrap .i64 x = x := by rw [IntKind.wrap_i64]; omega
theorem ZhN {r : List Int} (h : inW r) : plc (r.getD 0 0) (r.getD 1 0) = key r := by
  obtain ⟨⟨h1, h2⟩, h3, h4⟩ := h
  unfold plc key
  rw [wrap_small (x := 4 * r.getD 0 0) (by omega), wrap_small (by omega)]
theorem Znt {r : List Int} {a b : Int} (h : inW r) (ha : 0 ≤ a ∧ a ≤ 3) (hb : 0 ≤ b ∧ b ≤ 3) : (rw3 r a b < 0 ↔ key r < 4 * a + b) ∧ (rw3 r a b = 0 ↔ key r = 4 * a + b) := by
  obtain ⟨⟨h1, h2⟩, h3, h4⟩ := h
  unfold rw3 ior key
  rw [wrap_small (x := r.getD 0 0 - a) (by omega), wrap_small (x := r.getD 1 0 - b) (by omega)]
  generalize r.getD 0 0 = x at *
  generalize r.getD 1 0 = y at *
  cases hx : (x - a != 0) with
  | true => have hx : x - a ≠ 0 := by simpa using hx
            simp only [cond_true]; constructor <;> constructor <;> intro h <;> omega
  | false => have hx : x - a = 0 := by simpa using hx
             simp only [cond_false]; constructor <;> constructor <;> intro h <;> omega
def okWs (l : List (List Int)) : Prop := ∀ i, i < l.length → okw (l.getD i []) = true ∧ (0 < i → key (l.getD (i - 1) []) < key (l.getD i []))
theorem Zpw (l : List (List Int)) : (List.range l.length).any (Ze8 l) = false ↔ okWs l := by
  rw [List.any_eq_false]
  constructor
  · intro h i hi
    have hb := h i (by simpa using hi)
    have hok : okw (l.getD i []) = true := by
      unfold Ze8 at hb
      cases hx : okw (l.getD i []) with
      | true => rfl
      | false => rw [hx] at hb; simp at hb
    refine ⟨hok, fun h0 => ?_⟩
    have hb1 := h (i - 1) (by simp; omega)
    have hok1 : okw (l.getD (i - 1) []) = true := by
      unfold Ze8 at hb1
      cases hx : okw (l.getD (i - 1) []) with
      | true => rfl
      | false => rw [hx] at hb1; simp at hb1
    unfold Ze8 at hb
    rw [hok] at hb
    have hr := (ZeV hok).1
    have := (Znt (ZeV hok1).1 hr.1 hr.2).1
    simp only [h0, decide_true, Bool.not_true, Bool.false_or, Bool.true_and, decide_eq_true_eq] at hb
    have := this.1 (by omega)
    unfold key at this ⊢
    omega
  · intro h i hi
    obtain ⟨h1, h2⟩ := h i (by simpa using hi)
    unfold Ze8
    rw [h1]
    by_cases h0 : 0 < i
    · have hi' : i < l.length := by simpa using hi
      have hok1 := (h (i - 1) (by omega)).1
      have hr := (ZeV h1).1
      have := (Znt (ZeV hok1).1 hr.1 hr.2).1
      have := this.2 (by have := h2 h0; unfold key at this ⊢; omega)
      simp only [h0, decide_true, Bool.not_true, Bool.false_or, Bool.true_and, decide_eq_true_eq]; omega
    · simp only [h0, decide_false, Bool.not_true, Bool.false_or, Bool.false_and]; simp
theorem Zp7 (l : List (List Int)) : (List.range l.length).any (badP l) = false ↔ okWs l := by
  rw [List.any_eq_false]
  constructor
  · intro h i hi
    have hb := h i (by simpa using hi)
    have hok : okw (l.getD i []) = true := by
      unfold badP at hb
      cases hx : okw (l.getD i []) with
      | true => rfl
      | false => rw [hx] at hb; simp at hb
    refine ⟨hok, fun h0 => ?_⟩
    have hb1 := h (i - 1) (by simp; omega)
    have hok1 : okw (l.getD (i - 1) []) = true := by
      unfold badP at hb1
      cases hx : okw (l.getD (i - 1) []) with
      | true => rfl
      | false => rw [hx] at hb1; simp at hb1
    unfold badP at hb
    rw [hok, ZhN (ZeV hok).1, ZhN (ZeV hok1).1] at hb
    simp only [h0, decide_true, Bool.not_true, Bool.false_or, Bool.true_and, decide_eq_true_eq] at hb
    omega
  · intro h i hi
    obtain ⟨h1, h2⟩ := h i (by simpa using hi)
    unfold badP
    rw [h1]
    by_cases h0 : 0 < i
    · have hi' : i < l.length := by simpa using hi
      have hok1 := (h (i - 1) (by omega)).1
      rw [ZhN (ZeV h1).1, ZhN (ZeV hok1).1]
      have := h2 h0
      simp only [h0, decide_true, Bool.not_true, Bool.false_or, Bool.true_and, decide_eq_true_eq]; omega
    · simp only [h0, decide_false, Bool.not_true, Bool.false_or, Bool.false_and]; simp
theorem Zsi (l : List (List Int)) : (List.range l.length).any (badP l) = (List.range l.length).any (Ze8 l) := by
  have h1 := Zp7 l
  have h2 := Zpw l
  cases hp : (List.range l.length).any (badP l) with
  | false => rw [h2.2 (h1.1 hp)]
  | true =>
    cases hw : (List.range l.length).any (Ze8 l) with
    | true => rfl
    | false => rw [h1.2 (h2.1 hw)] at hp; cases hp
def fWP (l : List (List Int)) (sp : List (List D)) : LSum := ZcH [0, 2, 3] [] (fun i => stWP (mZ l) sp false i) (fun i => stWP (mZ l) sp false i) l.length (badP l) .ret (.exit 0)
theorem kWP {l : List (List Int)} {sp : List (List D)} (hw : wid 3 l) (hn : l.length ≤ 9223372036854775807) (Q : Exit → X → Prop) (x : X) (h : fWP l sp Q x) : XWP Tryz.prog (.loop (Zak Tryz.f123 0)) Q x := by
  refine ZbW (H := hkA band bor [(166, sWN), (91, sB val8), (141, sPl)] []) (sw := []) (V := vWP (mZ l) sp) (VE := vWP (mZ l) sp) (ZaI (.cons oWN (.cons Zfz (.cons oPl .nil)))) mixed (Zae rfl) (Zqn (mZ l) sp) (Zqn (mZ l) sp) _ _ _ _ _ _ (fun i hl N E h1 h2 => ?_) (fun N E h1 => ?_) Q x h
  · rw [rWP]
    have wi : IntKind.wrap .i64 ((i : Int) + 1) = ((i + 1 : Nat) : Int) := Zai (n := 1) (by omega)
    have hj0 : isJ [IntKind.i64] (((mZ l).getD i [])) = true := ZdI (j := 0) hw hl (by omega)
    have hj1 : isJ [IntKind.i64] (((mZ l).getD i []).drop 1) = true := ZdI (j := 1) hw hl (by omega)
    have hj2 : isJ [IntKind.i64] (((mZ l).getD i []).drop 2) = true := ZdI (j := 2) hw hl (by omega)
    have hz : decide (((i : Nat) : Int) > 0) = decide (0 < i) := by by_cases h : 0 < i <;> simp [h]
    simp only [Zag, Int.ofNat_lt, hl, decide_true, cond_true, Int.natCast_nonneg, Bool.and_self, Int.toNat_natCast, hj0, hj1, hj2, List.drop_zero, Zay, Zct, true_and, wi, hz]
    unfold badP okw at h1 h2
    unfold wnm
    revert h1 h2
    generalize lab ((l.getD i []).getD 0 0) = p1
    generalize ix4 ((l.getD i []).getD 1 0) = p2
    generalize val8 ((l.getD i []).getD 2 0) = p3
    intro h1 h2
    cases p1
    · exact h1 rfl
    cases p2
    · exact h1 rfl
    cases p3
    · exact h1 rfl
    by_cases h0 : 0 < i
    · obtain ⟨m, rfl⟩ : ∃ m, i = m + 1 := ⟨i - 1, by omega⟩
      have hlm : m < l.length := by omega
      have hk0 : isJ [IntKind.i64] (((mZ l).getD m [])) = true := ZdI (j := 0) hw hlm (by omega)
      have hk1 : isJ [IntKind.i64] (((mZ l).getD m []).drop 1) = true := ZdI (j := 1) hw hlm (by omega)
      have wp := ZjL (m := m) (by omega)
      simp only [h0, decide_true, cond_true, wp, Int.ofNat_lt, hlm, Int.natCast_nonneg, Bool.and_self, Int.toNat_natCast, hk0, hk1, Zay, Zct, Nat.add_sub_cancel, Bool.not_true, Bool.true_and, Bool.false_or, cond_false] at h1 h2 ⊢
      cases hd : decide (plc ((l.getD (m + 1) []).getD 0 0) ((l.getD (m + 1) []).getD 1 0) ≤ plc ((l.getD m []).getD 0 0) ((l.getD m []).getD 1 0)) with
      | true => rw [hd] at h1; exact h1 rfl
      | false => rw [hd] at h2; exact h2 rfl
    · simp only [h0, decide_false, Bool.false_and, Bool.or_false, cond_true, Bool.not_true, cond_false] at h1 h2 ⊢
      exact h2 trivial
  · rw [rWP]
    simp only [Zag, Int.ofNat_lt, Nat.lt_irrefl, decide_false, cond_false, true_and]
    exact h1
theorem eWP (l : List (List Int)) (sp : List (List D)) (K : DV → Prop) : (askL Tryz.prog [] [(2, fWP l sp)] Tryz.f123 [dS 3 (mZ l) sp] K) = (stWP (mZ l) sp false (0) = stWP (mZ l) sp false (0) ∧ (∀ (i : Nat), firstAt (badP l) (List.length l) i → K (DV.c (D.v (Value.bool false)))) ∧ (noneTo (badP l) (List.length l) → K (DV.c (D.v (Value.bool (decide (@Nat.cast Int _ (List.length (mZ l)) ≤ 16))))))) := by kernel_rfl
theorem oWPy : Zac Tryz.prog 123 sWMy := o_of Tryz.func123 (by kernel_rfl) rfl fun ds Q h => by
  unfold sWMy at h; split at h
  · rename_i R sp
    obtain ⟨h1, h2⟩ := Zaf h
    obtain ⟨e1, w1, n1⟩ := Zah h1
    rw [e1]
    rw [← Zat R] at n1
    generalize toZ R = l at *
    refine ⟨_, ZaH (l := []) (m := [(2, fWP l sp)]) .nil mixed (Zbo rfl (by kernel_rfl) (kWP w1 n1)) Tryz.func123 rfl rfl rfl ?_, rfl, rfl, h2⟩
    rw [eWP]
    refine ⟨rfl, fun i hi => ?_, fun hn => ?_⟩
    · unfold Zft; rw [← Zsi, hi.b]; simp
    · unfold Zft; rw [← Zsi, hn.b]
      by_cases h : l.length ≤ 16 <;> simp [Zag, h] <;> omega
  · exact h.elim
end

section
open Go Go.Proofs
def in64 (x : Int) : Bool := decide (-9223372036854775808 ≤ x) && decide (x ≤ 9223372036854775807)
end

section
open Go Go.Proofs
theorem o_al {f : FuncId} {fn : Func} {s : Spec} (hf : Tryz.prog.funcs[f]? = some fn) (hn : (fn.name == "runtime.NumGoroutine") = false) (hb : fn.body.isNone = false) (hc : ∀ ds Q, s ds Q → ∃ es r, All2 AL ds es ∧ CT Tryz.prog f es r ∧ r.pureOwn = true ∧ r.fit32 = true ∧ Q r) : Zac Tryz.prog f s := fun ds Q h => ⟨Zax hf hn hb, by
  obtain ⟨es, r, h0, h1, h2, h3, h4⟩ := hc ds Q h
  exact ⟨r, h1.args h0, .inl h2, h3, h4⟩⟩
theorem RD.shift {t t' off n : Nat} {cs : List D} : RD (.p t cs off) (.p t' ((cs.drop off).take n) 0) := fun w G v hv => by
  cases hv with
  | p _ _ b o _ vs hb hc hd =>
    have := DR.p (w := w) (G := G) t' ((cs.drop off).take n) b (o + off) 0 (fun j => vs (off + j)) hb (fun j hj => by
      have : off + j < cs.length := by simp at hj; omega
      rw [Nat.add_assoc]; exact hc (off + j) this) (fun j d hj => by
      rw [List.getElem?_take] at hj
      split at hj
      · rw [List.getElem?_drop] at hj
        exact hd (off + j) d hj
      · cases hj)
    simpa using this
theorem RD.trans {a b c : D} (h : RD a b) (h' : RD b c) : RD a c := fun w G v hv => h' w G v (h w G v hv)
theorem RD.f {fn : FuncId} {fs fs' cs cs' : List D} (h : All2 RD fs fs') (h' : All2 RD cs cs') (hn : fn ≠ AG) : RD (.f fn fs cs) (.f fn fs' cs') := fun w G v hv => by
  cases hv with
  | a => exact (hn rfl).elim
  | f _ _ _ fv cv h0 h1 h2 h3 h4 =>
    refine .f fn fs' cs' fv cv h0 (by rw [← h.len]; exact h1) (by rw [← h'.len]; exact h2) (fun i d hi => ?_) (fun i d hi => ?_)
    · obtain ⟨d0, g1, g2⟩ := h.get hi
      exact g2 _ _ _ (h3 i d0 g1)
    · obtain ⟨d0, g1, g2⟩ := h'.get hi
      exact g2 _ _ _ (h4 i d0 g1)
theorem RD.ag {cs cs' : List D} (h' : All2 RD cs cs') : RD (.f AG [] cs) (.f AG [] cs') := fun w G v hv => by
  cases hv with
  | f _ _ _ fv cv h0 => exact (h0 rfl).elim
  | a _ vs h1 h2 =>
    refine .a cs' vs (by rw [← h'.len]; exact h1) fun i d hi => ?_
    obtain ⟨d0, g1, g2⟩ := h'.get hi
    exact g2 _ _ _ (h2 i d0 g1)
def ZrM (cs : List D) (K : Int → Int → Int → Int → Prop) : Prop := match cs with
  | a :: b :: c :: d :: _ => ZbA a fun a => ZbA b fun b => ZbA c fun c => ZbA d fun d => K a b c d
  | _ => False
theorem ZmG {cs : List D} {K : Int → Int → Int → Int → Prop} (h : ZrM cs K) : ∃ a b c d, K a b c d ∧ All2 RD (cs.take 4) [vN a, vN b, vN c, vN d] := by
  unfold ZrM at h
  split at h
  · obtain ⟨a, h, e0⟩ := Zal h
    obtain ⟨b, h, e1⟩ := Zal h
    obtain ⟨c, h, e2⟩ := Zal h
    obtain ⟨d, h, e3⟩ := Zal h
    exact ⟨a, b, c, d, h, .cons e0 (.cons e1 (.cons e2 (.cons e3 .nil)))⟩
  · exact h.elim
def ZlJ (d : D) (K : Int → Int → Int → Int → Prop) : Prop := match d with
  | .p _ cs off => ZrM (cs.drop off) K
  | _ => False
theorem ZfE {d : D} {K : Int → Int → Int → Int → Prop} (h : ZlJ d K) : ∃ a b c e, K a b c e ∧ RD d (.p 0 [vN a, vN b, vN c, vN e] 0) ∧ d.isOwn = false := by
  unfold ZlJ at h
  split at h
  · obtain ⟨a, b, c, d, h, e⟩ := ZmG h
    exact ⟨a, b, c, d, h, (RD.shift (t' := 0)).trans (RD.cells e), rfl⟩
  · exact h.elim
def Zg4 (cs : List D) (K : List (List D) → List (List D) → List (List D) → List (List D) → Prop) : Prop := match cs with
  | a :: b :: c :: d :: _ => Zb1 3 a fun a => Zb1 3 b fun b => Zb1 3 c fun c => Zb1 3 d fun d => K a b c d
  | _ => False
abbrev wsL (a b c d : List (List D)) : List D := [.s 0 3 a [], .s 0 3 b [], .s 0 3 c [], .s 0 3 d []]
theorem ZcG {cs : List D} {K : List (List D) → List (List D) → List (List D) → List (List D) → Prop} (h : Zg4 cs K) : ∃ a b c d, K a b c d ∧ All2 RD (cs.take 4) (wsL a b c d) := by
  unfold Zg4 at h
  split at h
  · obtain ⟨a, h, e0⟩ := Zas h
    obtain ⟨b, h, e1⟩ := Zas h
    obtain ⟨c, h, e2⟩ := Zas h
    obtain ⟨d, h, e3⟩ := Zas h
    exact ⟨a, b, c, d, h, .cons e0 (.cons e1 (.cons e2 (.cons e3 .nil)))⟩
  · exact h.elim
def Zlw (d : D) (K : List (List D) → List (List D) → List (List D) → List (List D) → Prop) : Prop := match d with
  | .p _ cs off => Zg4 (cs.drop off) K
  | _ => False
theorem Zfv {d : D} {K : List (List D) → List (List D) → List (List D) → List (List D) → Prop} (h : Zlw d K) : ∃ a b c e, K a b c e ∧ RD d (.p 0 (wsL a b c e) 0) ∧ d.isOwn = false := by
  unfold Zlw at h
  split at h
  · obtain ⟨a, b, c, d, h, e⟩ := ZcG h
    exact ⟨a, b, c, d, h, (RD.shift (t' := 0)).trans (RD.cells e), rfl⟩
  · exact h.elim
def sNo : Spec := fun ds Q => match ds with | [.c (.v (.int .i64 x))] => lab x = false ∧ Q (B false) | _ => False
def v4 (a b c d : Int) : Bool := val8 a && (val8 b && (val8 c && val8 d))
theorem eRgM (a b c d : Int) (K : DV → Prop) : (ask Tryz.prog [(115, sB val8)] Tryz.f114 [.c (.p 0 [vi a, vi b, vi c, vi d] 0)] K) = (bif !val8 a then K (DV.c (D.v (Value.bool false))) else bif !val8 b then K (DV.c (D.v (Value.bool false))) else bif !val8 c then K (DV.c (D.v (Value.bool false))) else bif !val8 d then K (DV.c (D.v (Value.bool false))) else K (DV.c (D.v (Value.bool true)))) := by kernel_rfl
theorem cRgM (a b c d : Int) : CT Tryz.prog 114 [.c (.p 0 [vi a, vi b, vi c, vi d] 0)] (B (v4 a b c d)) := Zaj (.cons oVal .nil) mixed Tryz.func114 rfl rfl rfl (by
  rw [eRgM]; unfold v4; cases val8 a <;> cases val8 b <;> cases val8 c <;> cases val8 d <;> rfl)
theorem ZuX (a b c d : Int) (K : DV → Prop) : (ask Tryz.prog [(91, sB val8)] Tryz.f121 [.agg [vi a, vi b, vi c, vi d]] K) = (bif !val8 a then K (DV.c (D.v (Value.bool false))) else bif !val8 b then K (DV.c (D.v (Value.bool false))) else bif !val8 c then K (DV.c (D.v (Value.bool false))) else bif !val8 d then K (DV.c (D.v (Value.bool false))) else K (DV.c (D.v (Value.bool true)))) := by kernel_rfl
theorem Zt1 (a b c d : Int) : CT Tryz.prog 121 [.agg [vi a, vi b, vi c, vi d]] (B (v4 a b c d)) := Zaj (.cons Zfz .nil) mixed Tryz.func121 rfl rfl rfl (by
  rw [ZuX]; unfold v4; cases val8 a <;> cases val8 b <;> cases val8 c <;> cases val8 d <;> rfl)
def Zpd : Spec := fun ds Q => match ds with | [.agg [.v (.int .i64 a), .v (.int .i64 b), .v (.int .i64 c), .v (.int .i64 d)]] => Q (B (v4 a b c d)) | _ => False
theorem Zr5 : Zac Tryz.prog 121 Zpd := fun ds Q h => by
  unfold Zpd at h; split at h
  · exact ⟨Zax Tryz.func121 (by kernel_rfl) rfl, _, Zt1 _ _ _ _, .inl rfl, rfl, h⟩
  · exact h.elim
def sRgM : Spec := fun ds Q => match ds with | [.c d] => ZlJ d fun a b c e => Q (B (v4 a b c e)) | _ => False
theorem oRgM : Zac Tryz.prog 114 sRgM := o_al Tryz.func114 (by kernel_rfl) rfl fun ds Q h => by
  unfold sRgM at h; split at h
  · obtain ⟨a, b, c, e, h, hr, ho⟩ := ZfE h
    exact ⟨_, _, .cons (.c hr ho rfl) .nil, cRgM a b c e, rfl, rfl, h⟩
  · exact h.elim
def ck4 (a b c d : Int) : Bool := clk a && (clk b && (clk c && clk d))
theorem eCkM (a b c d l : Int) (K : DV → Prop) : (ask Tryz.prog [(102, sB clk)] Tryz.f61 [.c (.p 0 [vi a, vi b, vi c, vi d] 0), I l] K) = (bif !clk a then K (DV.c (D.v (Value.bool false))) else bif !clk b then K (DV.c (D.v (Value.bool false))) else bif !clk c then K (DV.c (D.v (Value.bool false))) else bif !clk d then K (DV.c (D.v (Value.bool false))) else K (DV.c (D.v (Value.bool (clk l))))) := by kernel_rfl
def sCkM : Spec := fun ds Q => match ds with | [.c d, .c (.v (.int .i64 l))] => ZlJ d fun a b c e => Q (B (ck4 a b c e && clk l)) | _ => False
theorem oCkM : Zac Tryz.prog 61 sCkM := o_al Tryz.func61 (by kernel_rfl) rfl fun ds Q h => by
  unfold sCkM at h; split at h
  · rename_i d l
    obtain ⟨a, b, c, e, h, hr, ho⟩ := ZfE h
    refine ⟨[.c (.p 0 [vi a, vi b, vi c, vi e] 0), I l], _, .cons (.c hr ho rfl) (.cons (.refl _) .nil), Zaj (.cons oClk .nil) mixed Tryz.func61 rfl rfl rfl ?_, rfl, rfl, h⟩
    rw [eCkM]; unfold ck4; cases clk a <;> cases clk b <;> cases clk c <;> cases clk e <;> rfl
  · exact h.elim
end

section
open Go Go.Proofs
theorem Zea {α : Type} (l : List α) (p : α → Bool) : decide ((match l.findIdx? p with | some i => (i : Int) | none => -1) ≥ 0) = l.any p := by
  cases h : l.findIdx? p with
  | some i =>
    have : l.any p = true := by
      rw [List.findIdx?_eq_some_iff_getElem] at h
      obtain ⟨h1, h2, _⟩ := h
      exact List.any_eq_true.2 ⟨_, List.getElem_mem h1, h2⟩
    rw [this]; simp
  | none =>
    have : l.any p = false := by
      rw [List.findIdx?_eq_none_iff] at h
      rw [List.any_eq_false]; intro x hx; simpa using h x hx
    rw [this]; rfl
def thW (R0 R1 R2 R3 : List (List D)) (x y : Int) : Bool := thr R0.length R1.length R2.length R3.length x y
def Zgt (fn : Nat) (e : D) (K : List (List D) → List (List D) → List (List D) → List (List D) → Prop) : Prop := match e with
  | .f g fs cs => match Nat.beq g fn with
    | true => match fs, cs with
      | [x], [] => match x with
        | .f h gs ps => match Nat.beq h AG with
          | true => match gs, ps with
            | [], [p] => Zlw p K
            | _, _ => False
          | false => False
        | _ => False
      | _, _ => False
    | false => False
  | _ => False
theorem Zb8 {fn : Nat} {e : D} {K : List (List D) → List (List D) → List (List D) → List (List D) → Prop} (hn : fn ≠ AG) (h : Zgt fn e K) : ∃ a b c d, K a b c d ∧ RD e (.f fn [.f AG [] [.p 0 (wsL a b c d) 0]] []) ∧ e.isOwn = false := by
  unfold Zgt at h
  split at h
  · split at h
    · rename_i hb
      have := Zaa hb; subst this
      split at h
      · split at h
        · split at h
          · rename_i hb2
            have := Zaa hb2; subst this
            split at h
            · obtain ⟨a, b, c, d, h, r, _⟩ := Zfv h
              exact ⟨a, b, c, d, h, RD.f (.cons (RD.ag (.cons r .nil)) .nil) .nil hn, rfl⟩
            · exact h.elim
          · exact h.elim
        · exact h.elim
      · exact h.elim
    · exact h.elim
  · exact h.elim
def isRW (c : Int) : Bool := bif c == 2 then true else c == 3
theorem eIWd (a b c d : Int) (K : DV → Prop) : (ask Tryz.prog [] Tryz.f162 [.agg [vi a, vi b, vi c, vi d]] K) = (bif a == 2 then K (DV.c (D.v (Value.bool true))) else K (DV.c (D.v (Value.bool (a == 3))))) := by kernel_rfl
def sIWd : Spec := fun ds Q => match ds with | [.agg [.v (.int .i64 a), .v (.int .i64 b), .v (.int .i64 c), .v (.int .i64 d)]] => Q (B (isRW a)) | _ => False
theorem oIWd : Zac Tryz.prog 162 sIWd := o_of Tryz.func162 (by kernel_rfl) rfl fun ds Q h => by
  unfold sIWd at h; split at h
  · rename_i a b c d
    refine ⟨_, Zaj .nil mixed Tryz.func162 rfl rfl rfl ?_, rfl, rfl, h⟩
    rw [eIWd]; unfold isRW; cases a == 2 <;> rfl
  · exact h.elim
def noRd (R0 R1 R2 R3 : List (List D)) (r : List Int) : Bool := !thW R0 R1 R2 R3 (r.getD 0 0) (r.getD 1 0)
theorem eLR (a b c : Int) (R0 R1 R2 R3 : List (List D)) (K : DV → Prop) : (ask Tryz.prog [(157, sThr)] Tryz.f108 [.agg [.p 0 [.s 0 3 R0 [], .s 0 3 R1 [], .s 0 3 R2 [], .s 0 3 R3 []] 0], .agg [vi a, vi b, vi c]] K) = (K (DV.c (D.v (Value.bool (thr (List.length R0) (List.length R1) (List.length R2) (List.length R3) a b))))) := by kernel_rfl
def sLR : Spec := fun ds Q => match ds with | [.agg [.p 0 [.s 0 3 R0 [], .s 0 3 R1 [], .s 0 3 R2 [], .s 0 3 R3 []] 0], .agg [.v (.int .i64 a), .v (.int .i64 b), .v (.int .i64 c)]] => Q (B (!noRd R0 R1 R2 R3 [a, b, c])) | _ => False
theorem oLR : Zac Tryz.prog 108 sLR := o_of Tryz.func108 (by kernel_rfl) rfl fun ds Q h => by
  unfold sLR at h; split at h
  · rename_i R0 R1 R2 R3 a b c
    refine ⟨_, Zaj ((.cons oThr .nil)) mixed Tryz.func108 rfl rfl rfl ?_, rfl, rfl, h⟩
    rw [eLR]; unfold noRd thW; simp only [List.getD_cons_zero, List.getD_cons_succ, Bool.not_not]
    try (cases isRW a <;> simp)
  · exact h.elim
theorem eLR1 (a b c : Int) (R0 R1 R2 R3 : List (List D)) (K : DV → Prop) : (ask Tryz.prog [(108, sLR)] Tryz.f156 [.agg [vi a, vi b, vi c], .c (.p 0 [.f 108 [.f 4294967295 [] [.p 0 [.s 0 3 R0 [], .s 0 3 R1 [], .s 0 3 R2 [], .s 0 3 R3 []] 0]] []] 0)] K) = (K (DV.c (D.v (Value.bool !!noRd R0 R1 R2 R3 [a, b, c])))) := by kernel_rfl
def sLR1 : Spec := fun ds Q => match ds with | [.agg [.v (.int .i64 a), .v (.int .i64 b), .v (.int .i64 c)], .c (.p 0 [.f 108 [.f 4294967295 [] [.p 0 [.s 0 3 R0 [], .s 0 3 R1 [], .s 0 3 R2 [], .s 0 3 R3 []] 0]] []] 0)] => Q (B (noRd R0 R1 R2 R3 [a, b, c])) | _ => False
theorem oLR1 : Zac Tryz.prog 156 sLR1 := o_of Tryz.func156 (by kernel_rfl) rfl fun ds Q h => by
  unfold sLR1 at h; split at h
  · exact ⟨_, Zaj (.cons oLR .nil) mixed Tryz.func156 rfl rfl rfl (by rw [eLR1, Bool.not_not]), rfl, rfl, h⟩
  · exact h.elim
def ZdJ (R0 : List (List D)) (R1 : List (List D)) (R2 : List (List D)) (R3 : List (List D)) (R : List (List D)) (sp : List (List D)) (v : Int) (i : Int) : X := ⟨mkT 19 [(0, aS 3 R sp), (1, .c (.d (.f 156 [] [.p 0 [.f 108 [.f 4294967295 [] [.p 0 [.s 0 3 R0 [], .s 0 3 R1 [], .s 0 3 R2 [], .s 0 3 R3 []] 0]] []] 0]))), (4, ai v), (7, ai R.length), (8, ai i)], [], [], []⟩
def Zeo (R0 : List (List D)) (R1 : List (List D)) (R2 : List (List D)) (R3 : List (List D)) (R : List (List D)) (sp : List (List D)) : Vw := fun y K => wI y 4 fun v => wI y 8 fun i => K (ZdJ R0 R1 R2 R3 R sp v i)
theorem Zg8 (R0 : List (List D)) (R1 : List (List D)) (R2 : List (List D)) (R3 : List (List D)) (R : List (List D)) (sp : List (List D)) : VwOK (Zeo R0 R1 R2 R3 R sp) := fun y K h => by
  unfold Zeo at h
  obtain ⟨v, h⟩ := Zbt h
  obtain ⟨i, h⟩ := Zbt h
  exact ⟨_, h⟩
theorem ZsI (R0 : List (List D)) (R1 : List (List D)) (R2 : List (List D)) (R3 : List (List D)) (R sp : List (List D)) (i v : Int) (N : X → Prop) (E : Exit → X → Prop) : (Zcn Tryz.prog (hkA band bor [(156, sLR1)] []) Tryz.f185 0 [] [0, 1, 4, 7, 8] [] (Zeo R0 R1 R2 R3 R sp) (Zeo R0 R1 R2 R3 R sp) N E (ZdJ R0 R1 R2 R3 R sp v i)) = (bif decide (i < @Nat.cast Int _ (List.length R)) then bif decide (0 ≤ i) && decide (i < @Nat.cast Int _ (List.length R)) then bif isJ [IntKind.i64, IntKind.i64, IntKind.i64] (List.drop (0) (List.getD R (Int.toNat i) [])) then bif noRd R0 R1 R2 R3 [hdJ (List.drop (0) (List.getD R (Int.toNat i) [])), hdJ (List.tail (List.drop (0) (List.getD R (Int.toNat i) []))), hdJ (List.tail (List.tail (List.drop (0) (List.getD R (Int.toNat i) []))))] then ZdJ R0 R1 R2 R3 R sp i i = ZdJ R0 R1 R2 R3 R sp i i ∧ E Exit.ret (ZdJ R0 R1 R2 R3 R sp i i) else ZdJ R0 R1 R2 R3 R sp v (IntKind.wrap IntKind.i64 (i + 1)) = ZdJ R0 R1 R2 R3 R sp v (IntKind.wrap IntKind.i64 (i + 1)) ∧ N (ZdJ R0 R1 R2 R3 R sp v (IntKind.wrap IntKind.i64 (i + 1))) else False else False else ZdJ R0 R1 R2 R3 R sp v i = ZdJ R0 R1 R2 R3 R sp v i ∧ E (Exit.exit (0)) (ZdJ R0 R1 R2 R3 R sp v i)) := by kernel_rfl
def ZqX (R0 : List (List D)) (R1 : List (List D)) (R2 : List (List D)) (R3 : List (List D)) (l : List (List Int)) (sp : List (List D)) : LSum := ZcH [0, 1, 4, 7, 8] [] (fun i => ZdJ R0 R1 R2 R3 (mZ l) sp 0 i) (fun i => ZdJ R0 R1 R2 R3 (mZ l) sp i i) l.length (fun i => noRd R0 R1 R2 R3 (l.getD i [])) .ret (.exit 0)
theorem ZuH (R0 : List (List D)) (R1 : List (List D)) (R2 : List (List D)) (R3 : List (List D)) (l : List (List Int)) (sp : List (List D)) (K : DV → Prop) : (askL Tryz.prog [] [(2, ZqX R0 R1 R2 R3 l sp)] Tryz.f185 [dS 3 (mZ l) sp, .c (.f 156 [] [.p 0 [.f 108 [.f 4294967295 [] [.p 0 [.s 0 3 R0 [], .s 0 3 R1 [], .s 0 3 R2 [], .s 0 3 R3 []] 0]] []] 0])] K) = (ZdJ R0 R1 R2 R3 (mZ l) sp (0) (0) = ZdJ R0 R1 R2 R3 (mZ l) sp (0) (0) ∧ (∀ (i : Nat), firstAt (fun i => noRd R0 R1 R2 R3 (List.getD l i [])) (List.length l) i → K (DV.c (D.v (Value.int IntKind.i64 (@Nat.cast Int _ i))))) ∧ (noneTo (fun i => noRd R0 R1 R2 R3 (List.getD l i [])) (List.length l) → K (DV.c (D.v (Value.int IntKind.i64 (-1)))))) := by kernel_rfl
theorem ZuN (R0 : List (List D)) (R1 : List (List D)) (R2 : List (List D)) (R3 : List (List D)) {l : List (List Int)} {sp : List (List D)} (hw : wid 3 l) (hn : l.length ≤ 9223372036854775807) (Q : Exit → X → Prop) (x : X) (h : ZqX R0 R1 R2 R3 l sp Q x) : XWP Tryz.prog (.loop (Zak Tryz.f185 0)) Q x := by
  refine ZbW (H := hkA band bor [(156, sLR1)] []) (sw := []) (V := Zeo R0 R1 R2 R3 (mZ l) sp) (VE := Zeo R0 R1 R2 R3 (mZ l) sp) (ZaI (.cons oLR1 .nil)) mixed (Zae rfl) (Zg8 R0 R1 R2 R3 (mZ l) sp) (Zg8 R0 R1 R2 R3 (mZ l) sp) _ _ _ _ _ _ (fun i hl N E h1 h2 => ?_) (fun N E h1 => ?_) Q x h
  · rw [ZsI]
    have wi : IntKind.wrap .i64 ((i : Int) + 1) = ((i + 1 : Nat) : Int) := Zai (n := 1) (by omega)
    have hj1 : isJ [IntKind.i64, IntKind.i64, IntKind.i64] ((mZ l).getD i []) = true := Zap (j := 0) (n := 3) hw hl (by omega)
    simp only [Zag, Int.ofNat_lt, hl, decide_true, cond_true, Int.natCast_nonneg, Bool.and_self, Int.toNat_natCast, ZaK, ZaM, Zbc, hj1, List.drop_zero, Zay, true_and, wi]
    have e : noRd R0 R1 R2 R3 (l.getD i []) = noRd R0 R1 R2 R3 [(l.getD i []).getD 0 0, (l.getD i []).getD 1 0, (l.getD i []).getD 2 0] := rfl
    cases ho : noRd R0 R1 R2 R3 (l.getD i []) with
    | false => rw [e] at ho; rw [ho]; exact h2 (by rw [e]; exact ho)
    | true => rw [e] at ho; rw [ho]; exact h1 (by rw [e]; exact ho)
  · rw [ZsI]
    simp only [Zag, Int.ofNat_lt, Nat.lt_irrefl, decide_false, cond_false, true_and]
    exact h1
def Zq7 : Spec := fun ds Q => match ds with | [.c (.s 0 3 R sp), .c (.f 156 [] [.p 0 [.f 108 [.f 4294967295 [] [.p 0 [.s 0 3 R0 [], .s 0 3 R1 [], .s 0 3 R2 [], .s 0 3 R3 []] 0]] []] 0])] => cond (okZ 3 R) (Q (I (match (toZ R).findIdx? (noRd R0 R1 R2 R3) with | some i => (i : Int) | none => -1))) False | _ => False
theorem Zuo : Zac Tryz.prog 185 Zq7 := o_of Tryz.func185 (by kernel_rfl) rfl fun ds Q h => by
  unfold Zq7 at h; split at h
  · rename_i R sp R0 R1 R2 R3
    obtain ⟨h1, h2⟩ := Zaf h
    obtain ⟨e1, w1, n1⟩ := Zah h1
    rw [e1]
    rw [← Zat R] at n1
    generalize toZ R = l at *
    refine ⟨_, ZaH (l := []) (m := [(2, ZqX R0 R1 R2 R3 l sp)]) .nil mixed (Zbo rfl (by kernel_rfl) (ZuN R0 R1 R2 R3 w1 n1)) Tryz.func185 rfl rfl rfl ?_, rfl, rfl, h2⟩
    rw [ZuH]
    refine ⟨rfl, fun i hi => ?_, fun hn => ?_⟩
    · rw [hi.find]
    · rw [hn.find]
  · exact h.elim
theorem Zuh (R0 : List (List D)) (R1 : List (List D)) (R2 : List (List D)) (R3 : List (List D)) (R sp : List (List D)) (K : DV → Prop) : (ask Tryz.prog [(185, Zq7)] Tryz.f154 [dS 3 R sp, .c (.f 156 [] [.p 0 [.f 108 [.f 4294967295 [] [.p 0 [.s 0 3 R0 [], .s 0 3 R1 [], .s 0 3 R2 [], .s 0 3 R3 []] 0]] []] 0])] K) = (bif okZ (3) R then K (DV.c (D.v (Value.bool (decide ((match List.findIdx? (noRd R0 R1 R2 R3) (toZ R) with | some i => @Nat.cast Int _ i | none => -1) ≥ 0))))) else False) := by kernel_rfl
def ZqI : Spec := fun ds Q => match ds with | [.c (.s 0 3 R sp), .c (.f 156 [] [.p 0 [.f 108 [.f 4294967295 [] [.p 0 [.s 0 3 R0 [], .s 0 3 R1 [], .s 0 3 R2 [], .s 0 3 R3 []] 0]] []] 0])] => cond (okZ 3 R) (Q (B ((toZ R).any (noRd R0 R1 R2 R3)))) False | _ => False
theorem ZtG : Zac Tryz.prog 154 ZqI := o_of Tryz.func154 (by kernel_rfl) rfl fun ds Q h => by
  unfold ZqI at h; split at h
  · obtain ⟨h1, h2⟩ := Zaf h
    refine ⟨_, Zaj (.cons Zuo .nil) mixed Tryz.func154 rfl rfl rfl ?_, rfl, rfl, h2⟩
    rw [Zuh, h1, Zea]; rfl
  · exact h.elim
theorem ZsC (R : List (List D)) (R0 R1 R2 R3 : List (List D)) (K : DV → Prop) : (ask Tryz.prog [(154, ZqI)] Tryz.f107 [.c (.s 0 3 R []), .c (.f 108 [.f 4294967295 [] [.p 0 (wsL R0 R1 R2 R3) 0]] [])] K) = (bif okZ (3) R then K (DV.c (D.v (Value.bool !List.any (toZ R) (noRd R0 R1 R2 R3)))) else False) := by kernel_rfl
def ZmZ : Spec := fun ds Q => match ds with | [.c d, .c e] => cond d.isOwn False (Zb1 3 d fun R => Zgt 108 e fun R0 R1 R2 R3 => cond (okZ 3 R) (Q (B (!(toZ R).any (noRd R0 R1 R2 R3)))) False) | _ => False
theorem Zsw : Zac Tryz.prog 107 ZmZ := o_al Tryz.func107 (by kernel_rfl) rfl fun ds Q h => by
  unfold ZmZ at h; split at h
  · rename_i d e
    cases hd : d.isOwn with
    | true => rw [hd] at h; exact h.elim
    | false =>
      rw [hd] at h
      obtain ⟨R, h, r1⟩ := Zas h
      obtain ⟨R0, R1, R2, R3, h, r2, e2⟩ := Zb8 (by decide) h
      obtain ⟨h1, h2⟩ := Zaf h
      refine ⟨_, _, .cons (.c r1 hd rfl) (.cons (.c r2 e2 rfl) .nil), Zaj (.cons ZtG .nil) mixed Tryz.func107 rfl rfl rfl ?_, rfl, rfl, h2⟩
      rw [ZsC, h1]; rfl
  · exact h.elim
def noWr (R0 R1 R2 R3 : List (List D)) (r : List Int) : Bool := !thW R0 R1 R2 R3 (r.getD 0 0) (r.getD 1 0)
theorem eLW (a b c : Int) (R0 R1 R2 R3 : List (List D)) (K : DV → Prop) : (ask Tryz.prog [(157, sThr)] Tryz.f110 [.agg [.p 0 [.s 0 3 R0 [], .s 0 3 R1 [], .s 0 3 R2 [], .s 0 3 R3 []] 0], .agg [vi a, vi b, vi c]] K) = (K (DV.c (D.v (Value.bool (thr (List.length R0) (List.length R1) (List.length R2) (List.length R3) a b))))) := by kernel_rfl
def sLW : Spec := fun ds Q => match ds with | [.agg [.p 0 [.s 0 3 R0 [], .s 0 3 R1 [], .s 0 3 R2 [], .s 0 3 R3 []] 0], .agg [.v (.int .i64 a), .v (.int .i64 b), .v (.int .i64 c)]] => Q (B (!noWr R0 R1 R2 R3 [a, b, c])) | _ => False
theorem oLW : Zac Tryz.prog 110 sLW := o_of Tryz.func110 (by kernel_rfl) rfl fun ds Q h => by
  unfold sLW at h; split at h
  · rename_i R0 R1 R2 R3 a b c
    refine ⟨_, Zaj ((.cons oThr .nil)) mixed Tryz.func110 rfl rfl rfl ?_, rfl, rfl, h⟩
    rw [eLW]; unfold noWr thW; simp only [List.getD_cons_zero, List.getD_cons_succ, Bool.not_not]
    try (cases isRW a <;> simp)
  · exact h.elim
theorem eLW1 (a b c : Int) (R0 R1 R2 R3 : List (List D)) (K : DV → Prop) : (ask Tryz.prog [(110, sLW)] Tryz.f159 [.agg [vi a, vi b, vi c], .c (.p 0 [.f 110 [.f 4294967295 [] [.p 0 [.s 0 3 R0 [], .s 0 3 R1 [], .s 0 3 R2 [], .s 0 3 R3 []] 0]] []] 0)] K) = (K (DV.c (D.v (Value.bool !!noWr R0 R1 R2 R3 [a, b, c])))) := by kernel_rfl
def sLW1 : Spec := fun ds Q => match ds with | [.agg [.v (.int .i64 a), .v (.int .i64 b), .v (.int .i64 c)], .c (.p 0 [.f 110 [.f 4294967295 [] [.p 0 [.s 0 3 R0 [], .s 0 3 R1 [], .s 0 3 R2 [], .s 0 3 R3 []] 0]] []] 0)] => Q (B (noWr R0 R1 R2 R3 [a, b, c])) | _ => False
theorem oLW1 : Zac Tryz.prog 159 sLW1 := o_of Tryz.func159 (by kernel_rfl) rfl fun ds Q h => by
  unfold sLW1 at h; split at h
  · exact ⟨_, Zaj (.cons oLW .nil) mixed Tryz.func159 rfl rfl rfl (by rw [eLW1, Bool.not_not]), rfl, rfl, h⟩
  · exact h.elim
def ZdK (R0 : List (List D)) (R1 : List (List D)) (R2 : List (List D)) (R3 : List (List D)) (R : List (List D)) (sp : List (List D)) (v : Int) (i : Int) : X := ⟨mkT 19 [(0, aS 3 R sp), (1, .c (.d (.f 159 [] [.p 0 [.f 110 [.f 4294967295 [] [.p 0 [.s 0 3 R0 [], .s 0 3 R1 [], .s 0 3 R2 [], .s 0 3 R3 []] 0]] []] 0]))), (4, ai v), (7, ai R.length), (8, ai i)], [], [], []⟩
def ZeF (R0 : List (List D)) (R1 : List (List D)) (R2 : List (List D)) (R3 : List (List D)) (R : List (List D)) (sp : List (List D)) : Vw := fun y K => wI y 4 fun v => wI y 8 fun i => K (ZdK R0 R1 R2 R3 R sp v i)
theorem Zhe (R0 : List (List D)) (R1 : List (List D)) (R2 : List (List D)) (R3 : List (List D)) (R : List (List D)) (sp : List (List D)) : VwOK (ZeF R0 R1 R2 R3 R sp) := fun y K h => by
  unfold ZeF at h
  obtain ⟨v, h⟩ := Zbt h
  obtain ⟨i, h⟩ := Zbt h
  exact ⟨_, h⟩
theorem Zr4 (R0 : List (List D)) (R1 : List (List D)) (R2 : List (List D)) (R3 : List (List D)) (R sp : List (List D)) (i v : Int) (N : X → Prop) (E : Exit → X → Prop) : (Zcn Tryz.prog (hkA band bor [(159, sLW1)] []) Tryz.f187 0 [] [0, 1, 4, 7, 8] [] (ZeF R0 R1 R2 R3 R sp) (ZeF R0 R1 R2 R3 R sp) N E (ZdK R0 R1 R2 R3 R sp v i)) = (bif decide (i < @Nat.cast Int _ (List.length R)) then bif decide (0 ≤ i) && decide (i < @Nat.cast Int _ (List.length R)) then bif isJ [IntKind.i64, IntKind.i64, IntKind.i64] (List.drop (0) (List.getD R (Int.toNat i) [])) then bif noWr R0 R1 R2 R3 [hdJ (List.drop (0) (List.getD R (Int.toNat i) [])), hdJ (List.tail (List.drop (0) (List.getD R (Int.toNat i) []))), hdJ (List.tail (List.tail (List.drop (0) (List.getD R (Int.toNat i) []))))] then ZdK R0 R1 R2 R3 R sp i i = ZdK R0 R1 R2 R3 R sp i i ∧ E Exit.ret (ZdK R0 R1 R2 R3 R sp i i) else ZdK R0 R1 R2 R3 R sp v (IntKind.wrap IntKind.i64 (i + 1)) = ZdK R0 R1 R2 R3 R sp v (IntKind.wrap IntKind.i64 (i + 1)) ∧ N (ZdK R0 R1 R2 R3 R sp v (IntKind.wrap IntKind.i64 (i + 1))) else False else False else ZdK R0 R1 R2 R3 R sp v i = ZdK R0 R1 R2 R3 R sp v i ∧ E (Exit.exit (0)) (ZdK R0 R1 R2 R3 R sp v i)) := by kernel_rfl
def ZrI (R0 : List (List D)) (R1 : List (List D)) (R2 : List (List D)) (R3 : List (List D)) (l : List (List Int)) (sp : List (List D)) : LSum := ZcH [0, 1, 4, 7, 8] [] (fun i => ZdK R0 R1 R2 R3 (mZ l) sp 0 i) (fun i => ZdK R0 R1 R2 R3 (mZ l) sp i i) l.length (fun i => noWr R0 R1 R2 R3 (l.getD i [])) .ret (.exit 0)
theorem ZtO (R0 : List (List D)) (R1 : List (List D)) (R2 : List (List D)) (R3 : List (List D)) (l : List (List Int)) (sp : List (List D)) (K : DV → Prop) : (askL Tryz.prog [] [(2, ZrI R0 R1 R2 R3 l sp)] Tryz.f187 [dS 3 (mZ l) sp, .c (.f 159 [] [.p 0 [.f 110 [.f 4294967295 [] [.p 0 [.s 0 3 R0 [], .s 0 3 R1 [], .s 0 3 R2 [], .s 0 3 R3 []] 0]] []] 0])] K) = (ZdK R0 R1 R2 R3 (mZ l) sp (0) (0) = ZdK R0 R1 R2 R3 (mZ l) sp (0) (0) ∧ (∀ (i : Nat), firstAt (fun i => noWr R0 R1 R2 R3 (List.getD l i [])) (List.length l) i → K (DV.c (D.v (Value.int IntKind.i64 (@Nat.cast Int _ i))))) ∧ (noneTo (fun i => noWr R0 R1 R2 R3 (List.getD l i [])) (List.length l) → K (DV.c (D.v (Value.int IntKind.i64 (-1)))))) := by kernel_rfl
theorem ZtV (R0 : List (List D)) (R1 : List (List D)) (R2 : List (List D)) (R3 : List (List D)) {l : List (List Int)} {sp : List (List D)} (hw : wid 3 l) (hn : l.length ≤ 9223372036854775807) (Q : Exit → X → Prop) (x : X) (h : ZrI R0 R1 R2 R3 l sp Q x) : XWP Tryz.prog (.loop (Zak Tryz.f187 0)) Q x := by
  refine ZbW (H := hkA band bor [(159, sLW1)] []) (sw := []) (V := ZeF R0 R1 R2 R3 (mZ l) sp) (VE := ZeF R0 R1 R2 R3 (mZ l) sp) (ZaI (.cons oLW1 .nil)) mixed (Zae rfl) (Zhe R0 R1 R2 R3 (mZ l) sp) (Zhe R0 R1 R2 R3 (mZ l) sp) _ _ _ _ _ _ (fun i hl N E h1 h2 => ?_) (fun N E h1 => ?_) Q x h
  · rw [Zr4]
    have wi : IntKind.wrap .i64 ((i : Int) + 1) = ((i + 1 : Nat) : Int) := Zai (n := 1) (by omega)
    have hj1 : isJ [IntKind.i64, IntKind.i64, IntKind.i64] ((mZ l).getD i []) = true := Zap (j := 0) (n := 3) hw hl (by omega)
    simp only [Zag, Int.ofNat_lt, hl, decide_true, cond_true, Int.natCast_nonneg, Bool.and_self, Int.toNat_natCast, ZaK, ZaM, Zbc, hj1, List.drop_zero, Zay, true_and, wi]
    have e : noWr R0 R1 R2 R3 (l.getD i []) = noWr R0 R1 R2 R3 [(l.getD i []).getD 0 0, (l.getD i []).getD 1 0, (l.getD i []).getD 2 0] := rfl
    cases ho : noWr R0 R1 R2 R3 (l.getD i []) with
    | false => rw [e] at ho; rw [ho]; exact h2 (by rw [e]; exact ho)
    | true => rw [e] at ho; rw [ho]; exact h1 (by rw [e]; exact ho)
  · rw [Zr4]
    simp only [Zag, Int.ofNat_lt, Nat.lt_irrefl, decide_false, cond_false, true_and]
    exact h1
def ZqM : Spec := fun ds Q => match ds with | [.c (.s 0 3 R sp), .c (.f 159 [] [.p 0 [.f 110 [.f 4294967295 [] [.p 0 [.s 0 3 R0 [], .s 0 3 R1 [], .s 0 3 R2 [], .s 0 3 R3 []] 0]] []] 0])] => cond (okZ 3 R) (Q (I (match (toZ R).findIdx? (noWr R0 R1 R2 R3) with | some i => (i : Int) | none => -1))) False | _ => False
theorem Zuc : Zac Tryz.prog 187 ZqM := o_of Tryz.func187 (by kernel_rfl) rfl fun ds Q h => by
  unfold ZqM at h; split at h
  · rename_i R sp R0 R1 R2 R3
    obtain ⟨h1, h2⟩ := Zaf h
    obtain ⟨e1, w1, n1⟩ := Zah h1
    rw [e1]
    rw [← Zat R] at n1
    generalize toZ R = l at *
    refine ⟨_, ZaH (l := []) (m := [(2, ZrI R0 R1 R2 R3 l sp)]) .nil mixed (Zbo rfl (by kernel_rfl) (ZtV R0 R1 R2 R3 w1 n1)) Tryz.func187 rfl rfl rfl ?_, rfl, rfl, h2⟩
    rw [ZtO]
    refine ⟨rfl, fun i hi => ?_, fun hn => ?_⟩
    · rw [hi.find]
    · rw [hn.find]
  · exact h.elim
theorem ZtS (R0 : List (List D)) (R1 : List (List D)) (R2 : List (List D)) (R3 : List (List D)) (R sp : List (List D)) (K : DV → Prop) : (ask Tryz.prog [(187, ZqM)] Tryz.f158 [dS 3 R sp, .c (.f 159 [] [.p 0 [.f 110 [.f 4294967295 [] [.p 0 [.s 0 3 R0 [], .s 0 3 R1 [], .s 0 3 R2 [], .s 0 3 R3 []] 0]] []] 0])] K) = (bif okZ (3) R then K (DV.c (D.v (Value.bool (decide ((match List.findIdx? (noWr R0 R1 R2 R3) (toZ R) with | some i => @Nat.cast Int _ i | none => -1) ≥ 0))))) else False) := by kernel_rfl
def ZrU : Spec := fun ds Q => match ds with | [.c (.s 0 3 R sp), .c (.f 159 [] [.p 0 [.f 110 [.f 4294967295 [] [.p 0 [.s 0 3 R0 [], .s 0 3 R1 [], .s 0 3 R2 [], .s 0 3 R3 []] 0]] []] 0])] => cond (okZ 3 R) (Q (B ((toZ R).any (noWr R0 R1 R2 R3)))) False | _ => False
theorem Zuf : Zac Tryz.prog 158 ZrU := o_of Tryz.func158 (by kernel_rfl) rfl fun ds Q h => by
  unfold ZrU at h; split at h
  · obtain ⟨h1, h2⟩ := Zaf h
    refine ⟨_, Zaj (.cons Zuc .nil) mixed Tryz.func158 rfl rfl rfl ?_, rfl, rfl, h2⟩
    rw [ZtS, h1, Zea]; rfl
  · exact h.elim
theorem Zte (R : List (List D)) (R0 R1 R2 R3 : List (List D)) (K : DV → Prop) : (ask Tryz.prog [(158, ZrU)] Tryz.f109 [.c (.s 0 3 R []), .c (.f 110 [.f 4294967295 [] [.p 0 (wsL R0 R1 R2 R3) 0]] [])] K) = (bif okZ (3) R then K (DV.c (D.v (Value.bool !List.any (toZ R) (noWr R0 R1 R2 R3)))) else False) := by kernel_rfl
def Znj : Spec := fun ds Q => match ds with | [.c d, .c e] => cond d.isOwn False (Zb1 3 d fun R => Zgt 110 e fun R0 R1 R2 R3 => cond (okZ 3 R) (Q (B (!(toZ R).any (noWr R0 R1 R2 R3)))) False) | _ => False
theorem Zs1 : Zac Tryz.prog 109 Znj := o_al Tryz.func109 (by kernel_rfl) rfl fun ds Q h => by
  unfold Znj at h; split at h
  · rename_i d e
    cases hd : d.isOwn with
    | true => rw [hd] at h; exact h.elim
    | false =>
      rw [hd] at h
      obtain ⟨R, h, r1⟩ := Zas h
      obtain ⟨R0, R1, R2, R3, h, r2, e2⟩ := Zb8 (by decide) h
      obtain ⟨h1, h2⟩ := Zaf h
      refine ⟨_, _, .cons (.c r1 hd rfl) (.cons (.c r2 e2 rfl) .nil), Zaj (.cons Zuf .nil) mixed Tryz.func109 rfl rfl rfl ?_, rfl, rfl, h2⟩
      rw [Zte, h1]; rfl
  · exact h.elim
def noIn (R0 R1 R2 R3 : List (List D)) (r : List Int) : Bool := isRW (r.getD 0 0) && !thW R0 R1 R2 R3 (r.getD 2 0) (r.getD 3 0)
theorem eLI (a b c d : Int) (R0 R1 R2 R3 : List (List D)) (K : DV → Prop) : (ask Tryz.prog [(162, sIWd), (157, sThr)] Tryz.f112 [.agg [.p 0 [.s 0 3 R0 [], .s 0 3 R1 [], .s 0 3 R2 [], .s 0 3 R3 []] 0], .agg [vi a, vi b, vi c, vi d]] K) = (bif !isRW a then K (DV.c (D.v (Value.bool true))) else K (DV.c (D.v (Value.bool (thr (List.length R0) (List.length R1) (List.length R2) (List.length R3) c d))))) := by kernel_rfl
def sLI : Spec := fun ds Q => match ds with | [.agg [.p 0 [.s 0 3 R0 [], .s 0 3 R1 [], .s 0 3 R2 [], .s 0 3 R3 []] 0], .agg [.v (.int .i64 a), .v (.int .i64 b), .v (.int .i64 c), .v (.int .i64 d)]] => Q (B (!noIn R0 R1 R2 R3 [a, b, c, d])) | _ => False
theorem oLI : Zac Tryz.prog 112 sLI := o_of Tryz.func112 (by kernel_rfl) rfl fun ds Q h => by
  unfold sLI at h; split at h
  · rename_i R0 R1 R2 R3 a b c d
    refine ⟨_, Zaj (.cons oIWd (.cons oThr .nil)) mixed Tryz.func112 rfl rfl rfl ?_, rfl, rfl, h⟩
    rw [eLI]; unfold noIn thW; simp only [List.getD_cons_zero, List.getD_cons_succ, Bool.not_not]
    try (cases isRW a <;> simp)
  · exact h.elim
theorem eLI1 (a b c d : Int) (R0 R1 R2 R3 : List (List D)) (K : DV → Prop) : (ask Tryz.prog [(112, sLI)] Tryz.f161 [.agg [vi a, vi b, vi c, vi d], .c (.p 0 [.f 112 [.f 4294967295 [] [.p 0 [.s 0 3 R0 [], .s 0 3 R1 [], .s 0 3 R2 [], .s 0 3 R3 []] 0]] []] 0)] K) = (K (DV.c (D.v (Value.bool !!noIn R0 R1 R2 R3 [a, b, c, d])))) := by kernel_rfl
def sLI1 : Spec := fun ds Q => match ds with | [.agg [.v (.int .i64 a), .v (.int .i64 b), .v (.int .i64 c), .v (.int .i64 d)], .c (.p 0 [.f 112 [.f 4294967295 [] [.p 0 [.s 0 3 R0 [], .s 0 3 R1 [], .s 0 3 R2 [], .s 0 3 R3 []] 0]] []] 0)] => Q (B (noIn R0 R1 R2 R3 [a, b, c, d])) | _ => False
theorem oLI1 : Zac Tryz.prog 161 sLI1 := o_of Tryz.func161 (by kernel_rfl) rfl fun ds Q h => by
  unfold sLI1 at h; split at h
  · exact ⟨_, Zaj (.cons oLI .nil) mixed Tryz.func161 rfl rfl rfl (by rw [eLI1, Bool.not_not]), rfl, rfl, h⟩
  · exact h.elim
def ZdN (R0 : List (List D)) (R1 : List (List D)) (R2 : List (List D)) (R3 : List (List D)) (R : List (List D)) (sp : List (List D)) (v : Int) (i : Int) : X := ⟨mkT 19 [(0, aS 4 R sp), (1, .c (.d (.f 161 [] [.p 0 [.f 112 [.f 4294967295 [] [.p 0 [.s 0 3 R0 [], .s 0 3 R1 [], .s 0 3 R2 [], .s 0 3 R3 []] 0]] []] 0]))), (4, ai v), (7, ai R.length), (8, ai i)], [], [], []⟩
def ZeJ (R0 : List (List D)) (R1 : List (List D)) (R2 : List (List D)) (R3 : List (List D)) (R : List (List D)) (sp : List (List D)) : Vw := fun y K => wI y 4 fun v => wI y 8 fun i => K (ZdN R0 R1 R2 R3 R sp v i)
theorem ZgL (R0 : List (List D)) (R1 : List (List D)) (R2 : List (List D)) (R3 : List (List D)) (R : List (List D)) (sp : List (List D)) : VwOK (ZeJ R0 R1 R2 R3 R sp) := fun y K h => by
  unfold ZeJ at h
  obtain ⟨v, h⟩ := Zbt h
  obtain ⟨i, h⟩ := Zbt h
  exact ⟨_, h⟩
theorem Zsn (R0 : List (List D)) (R1 : List (List D)) (R2 : List (List D)) (R3 : List (List D)) (R sp : List (List D)) (i v : Int) (N : X → Prop) (E : Exit → X → Prop) : (Zcn Tryz.prog (hkA band bor [(161, sLI1)] []) Tryz.f188 0 [] [0, 1, 4, 7, 8] [] (ZeJ R0 R1 R2 R3 R sp) (ZeJ R0 R1 R2 R3 R sp) N E (ZdN R0 R1 R2 R3 R sp v i)) = (bif decide (i < @Nat.cast Int _ (List.length R)) then bif decide (0 ≤ i) && decide (i < @Nat.cast Int _ (List.length R)) then bif isJ [IntKind.i64, IntKind.i64, IntKind.i64, IntKind.i64] (List.drop (0) (List.getD R (Int.toNat i) [])) then bif noIn R0 R1 R2 R3 [hdJ (List.drop (0) (List.getD R (Int.toNat i) [])), hdJ (List.tail (List.drop (0) (List.getD R (Int.toNat i) []))), hdJ (List.tail (List.tail (List.drop (0) (List.getD R (Int.toNat i) [])))), hdJ (List.tail (List.tail (List.tail (List.drop (0) (List.getD R (Int.toNat i) [])))))] then ZdN R0 R1 R2 R3 R sp i i = ZdN R0 R1 R2 R3 R sp i i ∧ E Exit.ret (ZdN R0 R1 R2 R3 R sp i i) else ZdN R0 R1 R2 R3 R sp v (IntKind.wrap IntKind.i64 (i + 1)) = ZdN R0 R1 R2 R3 R sp v (IntKind.wrap IntKind.i64 (i + 1)) ∧ N (ZdN R0 R1 R2 R3 R sp v (IntKind.wrap IntKind.i64 (i + 1))) else False else False else ZdN R0 R1 R2 R3 R sp v i = ZdN R0 R1 R2 R3 R sp v i ∧ E (Exit.exit (0)) (ZdN R0 R1 R2 R3 R sp v i)) := by kernel_rfl
def ZrK (R0 : List (List D)) (R1 : List (List D)) (R2 : List (List D)) (R3 : List (List D)) (l : List (List Int)) (sp : List (List D)) : LSum := ZcH [0, 1, 4, 7, 8] [] (fun i => ZdN R0 R1 R2 R3 (mZ l) sp 0 i) (fun i => ZdN R0 R1 R2 R3 (mZ l) sp i i) l.length (fun i => noIn R0 R1 R2 R3 (l.getD i [])) .ret (.exit 0)
theorem ZtB (R0 : List (List D)) (R1 : List (List D)) (R2 : List (List D)) (R3 : List (List D)) (l : List (List Int)) (sp : List (List D)) (K : DV → Prop) : (askL Tryz.prog [] [(2, ZrK R0 R1 R2 R3 l sp)] Tryz.f188 [dS 4 (mZ l) sp, .c (.f 161 [] [.p 0 [.f 112 [.f 4294967295 [] [.p 0 [.s 0 3 R0 [], .s 0 3 R1 [], .s 0 3 R2 [], .s 0 3 R3 []] 0]] []] 0])] K) = (ZdN R0 R1 R2 R3 (mZ l) sp (0) (0) = ZdN R0 R1 R2 R3 (mZ l) sp (0) (0) ∧ (∀ (i : Nat), firstAt (fun i => noIn R0 R1 R2 R3 (List.getD l i [])) (List.length l) i → K (DV.c (D.v (Value.int IntKind.i64 (@Nat.cast Int _ i))))) ∧ (noneTo (fun i => noIn R0 R1 R2 R3 (List.getD l i [])) (List.length l) → K (DV.c (D.v (Value.int IntKind.i64 (-1)))))) := by kernel_rfl
theorem Zum (R0 : List (List D)) (R1 : List (List D)) (R2 : List (List D)) (R3 : List (List D)) {l : List (List Int)} {sp : List (List D)} (hw : wid 4 l) (hn : l.length ≤ 9223372036854775807) (Q : Exit → X → Prop) (x : X) (h : ZrK R0 R1 R2 R3 l sp Q x) : XWP Tryz.prog (.loop (Zak Tryz.f188 0)) Q x := by
  refine ZbW (H := hkA band bor [(161, sLI1)] []) (sw := []) (V := ZeJ R0 R1 R2 R3 (mZ l) sp) (VE := ZeJ R0 R1 R2 R3 (mZ l) sp) (ZaI (.cons oLI1 .nil)) mixed (Zae rfl) (ZgL R0 R1 R2 R3 (mZ l) sp) (ZgL R0 R1 R2 R3 (mZ l) sp) _ _ _ _ _ _ (fun i hl N E h1 h2 => ?_) (fun N E h1 => ?_) Q x h
  · rw [Zsn]
    have wi : IntKind.wrap .i64 ((i : Int) + 1) = ((i + 1 : Nat) : Int) := Zai (n := 1) (by omega)
    have hj1 : isJ [IntKind.i64, IntKind.i64, IntKind.i64, IntKind.i64] ((mZ l).getD i []) = true := Zap (j := 0) (n := 4) hw hl (by omega)
    simp only [Zag, Int.ofNat_lt, hl, decide_true, cond_true, Int.natCast_nonneg, Bool.and_self, Int.toNat_natCast, ZaK, ZaM, Zbc, hj1, List.drop_zero, Zay, true_and, wi]
    have e : noIn R0 R1 R2 R3 (l.getD i []) = noIn R0 R1 R2 R3 [(l.getD i []).getD 0 0, (l.getD i []).getD 1 0, (l.getD i []).getD 2 0, (l.getD i []).getD 3 0] := rfl
    cases ho : noIn R0 R1 R2 R3 (l.getD i []) with
    | false => rw [e] at ho; rw [ho]; exact h2 (by rw [e]; exact ho)
    | true => rw [e] at ho; rw [ho]; exact h1 (by rw [e]; exact ho)
  · rw [Zsn]
    simp only [Zag, Int.ofNat_lt, Nat.lt_irrefl, decide_false, cond_false, true_and]
    exact h1
def Zry : Spec := fun ds Q => match ds with | [.c (.s 0 4 R sp), .c (.f 161 [] [.p 0 [.f 112 [.f 4294967295 [] [.p 0 [.s 0 3 R0 [], .s 0 3 R1 [], .s 0 3 R2 [], .s 0 3 R3 []] 0]] []] 0])] => cond (okZ 4 R) (Q (I (match (toZ R).findIdx? (noIn R0 R1 R2 R3) with | some i => (i : Int) | none => -1))) False | _ => False
theorem ZuG : Zac Tryz.prog 188 Zry := o_of Tryz.func188 (by kernel_rfl) rfl fun ds Q h => by
  unfold Zry at h; split at h
  · rename_i R sp R0 R1 R2 R3
    obtain ⟨h1, h2⟩ := Zaf h
    obtain ⟨e1, w1, n1⟩ := Zah h1
    rw [e1]
    rw [← Zat R] at n1
    generalize toZ R = l at *
    refine ⟨_, ZaH (l := []) (m := [(2, ZrK R0 R1 R2 R3 l sp)]) .nil mixed (Zbo rfl (by kernel_rfl) (Zum R0 R1 R2 R3 w1 n1)) Tryz.func188 rfl rfl rfl ?_, rfl, rfl, h2⟩
    rw [ZtB]
    refine ⟨rfl, fun i hi => ?_, fun hn => ?_⟩
    · rw [hi.find]
    · rw [hn.find]
  · exact h.elim
theorem ZuT (R0 : List (List D)) (R1 : List (List D)) (R2 : List (List D)) (R3 : List (List D)) (R sp : List (List D)) (K : DV → Prop) : (ask Tryz.prog [(188, Zry)] Tryz.f160 [dS 4 R sp, .c (.f 161 [] [.p 0 [.f 112 [.f 4294967295 [] [.p 0 [.s 0 3 R0 [], .s 0 3 R1 [], .s 0 3 R2 [], .s 0 3 R3 []] 0]] []] 0])] K) = (bif okZ (4) R then K (DV.c (D.v (Value.bool (decide ((match List.findIdx? (noIn R0 R1 R2 R3) (toZ R) with | some i => @Nat.cast Int _ i | none => -1) ≥ 0))))) else False) := by kernel_rfl
def Zrx : Spec := fun ds Q => match ds with | [.c (.s 0 4 R sp), .c (.f 161 [] [.p 0 [.f 112 [.f 4294967295 [] [.p 0 [.s 0 3 R0 [], .s 0 3 R1 [], .s 0 3 R2 [], .s 0 3 R3 []] 0]] []] 0])] => cond (okZ 4 R) (Q (B ((toZ R).any (noIn R0 R1 R2 R3)))) False | _ => False
theorem Zuq : Zac Tryz.prog 160 Zrx := o_of Tryz.func160 (by kernel_rfl) rfl fun ds Q h => by
  unfold Zrx at h; split at h
  · obtain ⟨h1, h2⟩ := Zaf h
    refine ⟨_, Zaj (.cons ZuG .nil) mixed Tryz.func160 rfl rfl rfl ?_, rfl, rfl, h2⟩
    rw [ZuT, h1, Zea]; rfl
  · exact h.elim
theorem Zs0 (R : List (List D)) (R0 R1 R2 R3 : List (List D)) (K : DV → Prop) : (ask Tryz.prog [(160, Zrx)] Tryz.f111 [.c (.s 0 4 R []), .c (.f 112 [.f 4294967295 [] [.p 0 (wsL R0 R1 R2 R3) 0]] [])] K) = (bif okZ (4) R then K (DV.c (D.v (Value.bool !List.any (toZ R) (noIn R0 R1 R2 R3)))) else False) := by kernel_rfl
def ZnN : Spec := fun ds Q => match ds with | [.c d, .c e] => cond d.isOwn False (Zb1 4 d fun R => Zgt 112 e fun R0 R1 R2 R3 => cond (okZ 4 R) (Q (B (!(toZ R).any (noIn R0 R1 R2 R3)))) False) | _ => False
theorem ZsL : Zac Tryz.prog 111 ZnN := o_al Tryz.func111 (by kernel_rfl) rfl fun ds Q h => by
  unfold ZnN at h; split at h
  · rename_i d e
    cases hd : d.isOwn with
    | true => rw [hd] at h; exact h.elim
    | false =>
      rw [hd] at h
      obtain ⟨R, h, r1⟩ := Zas h
      obtain ⟨R0, R1, R2, R3, h, r2, e2⟩ := Zb8 (by decide) h
      obtain ⟨h1, h2⟩ := Zaf h
      refine ⟨_, _, .cons (.c r1 hd rfl) (.cons (.c r2 e2 rfl) .nil), Zaj (.cons Zuq .nil) mixed Tryz.func111 rfl rfl rfl ?_, rfl, rfl, h2⟩
      rw [Zs0, h1]; rfl
  · exact h.elim
theorem eLE (a b c d : Int) (K : DV → Prop) : (ask Tryz.prog [(64, sB lab)] Tryz.f63 [.agg [vi a, vi b, vi c, vi d]] K) = (K (DV.c (D.v (Value.bool (lab b))))) := by kernel_rfl
def sLE : Spec := fun ds Q => match ds with | [.agg [.v (.int .i64 a), .v (.int .i64 b), .v (.int .i64 c), .v (.int .i64 d)]] => Q (B (lab b)) | _ => False
theorem oLE : Zac Tryz.prog 63 sLE := o_of Tryz.func63 (by kernel_rfl) rfl fun ds Q h => by
  unfold sLE at h; split at h
  · exact ⟨_, Zaj (.cons oLab .nil) mixed Tryz.func63 rfl rfl rfl (by rw [eLE]), rfl, rfl, h⟩
  · exact h.elim
def noEv (r : List Int) : Bool := !lab (r.getD 1 0)
theorem eLE1 (a b c d : Int) (K : DV → Prop) : (ask Tryz.prog [(63, sLE)] Tryz.f117 [.agg [vi a, vi b, vi c, vi d], .c (.p 0 [.f 63 [] []] 0)] K) = (K (DV.c (D.v (Value.bool !lab b)))) := by kernel_rfl
def sLE1 : Spec := fun ds Q => match ds with | [.agg [.v (.int .i64 a), .v (.int .i64 b), .v (.int .i64 c), .v (.int .i64 d)], .c (.p 0 [.f 63 [] []] 0)] => Q (B (noEv [a, b, c, d])) | _ => False
theorem oLE1 : Zac Tryz.prog 117 sLE1 := o_of Tryz.func117 (by kernel_rfl) rfl fun ds Q h => by
  unfold sLE1 at h; split at h
  · exact ⟨_, Zaj (.cons oLE .nil) mixed Tryz.func117 rfl rfl rfl (by rw [eLE1]; rfl), rfl, rfl, h⟩
  · exact h.elim
def ZdD (R : List (List D)) (sp : List (List D)) (v : Int) (i : Int) : X := ⟨mkT 19 [(0, aS 4 R sp), (1, .c (.d (.f 117 [] [.p 0 [.f 63 [] []] 0]))), (4, ai v), (7, ai R.length), (8, ai i)], [], [], []⟩
def Zew (R : List (List D)) (sp : List (List D)) : Vw := fun y K => wI y 4 fun v => wI y 8 fun i => K (ZdD R sp v i)
theorem ZgN (R : List (List D)) (sp : List (List D)) : VwOK (Zew R sp) := fun y K h => by
  unfold Zew at h
  obtain ⟨v, h⟩ := Zbt h
  obtain ⟨i, h⟩ := Zbt h
  exact ⟨_, h⟩
theorem Zs3  (R sp : List (List D)) (i v : Int) (N : X → Prop) (E : Exit → X → Prop) : (Zcn Tryz.prog (hkA band bor [(117, sLE1)] []) Tryz.f163 0 [] [0, 1, 4, 7, 8] [] (Zew  R sp) (Zew  R sp) N E (ZdD  R sp v i)) = (bif decide (i < @Nat.cast Int _ (List.length R)) then bif decide (0 ≤ i) && decide (i < @Nat.cast Int _ (List.length R)) then bif isJ [IntKind.i64, IntKind.i64, IntKind.i64, IntKind.i64] (List.drop (0) (List.getD R (Int.toNat i) [])) then bif noEv [hdJ (List.drop (0) (List.getD R (Int.toNat i) [])), hdJ (List.tail (List.drop (0) (List.getD R (Int.toNat i) []))), hdJ (List.tail (List.tail (List.drop (0) (List.getD R (Int.toNat i) [])))), hdJ (List.tail (List.tail (List.tail (List.drop (0) (List.getD R (Int.toNat i) [])))))] then ZdD R sp i i = ZdD R sp i i ∧ E Exit.ret (ZdD R sp i i) else ZdD R sp v (IntKind.wrap IntKind.i64 (i + 1)) = ZdD R sp v (IntKind.wrap IntKind.i64 (i + 1)) ∧ N (ZdD R sp v (IntKind.wrap IntKind.i64 (i + 1))) else False else False else ZdD R sp v i = ZdD R sp v i ∧ E (Exit.exit (0)) (ZdD R sp v i)) := by kernel_rfl
def Zro  (l : List (List Int)) (sp : List (List D)) : LSum := ZcH [0, 1, 4, 7, 8] [] (fun i => ZdD  (mZ l) sp 0 i) (fun i => ZdD  (mZ l) sp i i) l.length (fun i => noEv  (l.getD i [])) .ret (.exit 0)
theorem Zug  (l : List (List Int)) (sp : List (List D)) (K : DV → Prop) : (askL Tryz.prog [] [(2, Zro  l sp)] Tryz.f163 [dS 4 (mZ l) sp, .c (.f 117 [] [.p 0 [.f 63 [] []] 0])] K) = (ZdD (mZ l) sp (0) (0) = ZdD (mZ l) sp (0) (0) ∧ (∀ (i : Nat), firstAt (fun i => noEv (List.getD l i [])) (List.length l) i → K (DV.c (D.v (Value.int IntKind.i64 (@Nat.cast Int _ i))))) ∧ (noneTo (fun i => noEv (List.getD l i [])) (List.length l) → K (DV.c (D.v (Value.int IntKind.i64 (-1)))))) := by kernel_rfl
theorem ZtH  {l : List (List Int)} {sp : List (List D)} (hw : wid 4 l) (hn : l.length ≤ 9223372036854775807) (Q : Exit → X → Prop) (x : X) (h : Zro  l sp Q x) : XWP Tryz.prog (.loop (Zak Tryz.f163 0)) Q x := by
  refine ZbW (H := hkA band bor [(117, sLE1)] []) (sw := []) (V := Zew  (mZ l) sp) (VE := Zew  (mZ l) sp) (ZaI (.cons oLE1 .nil)) mixed (Zae rfl) (ZgN  (mZ l) sp) (ZgN  (mZ l) sp) _ _ _ _ _ _ (fun i hl N E h1 h2 => ?_) (fun N E h1 => ?_) Q x h
  · rw [Zs3]
    have wi : IntKind.wrap .i64 ((i : Int) + 1) = ((i + 1 : Nat) : Int) := Zai (n := 1) (by omega)
    have hj1 : isJ [IntKind.i64, IntKind.i64, IntKind.i64, IntKind.i64] ((mZ l).getD i []) = true := Zap (j := 0) (n := 4) hw hl (by omega)
    simp only [Zag, Int.ofNat_lt, hl, decide_true, cond_true, Int.natCast_nonneg, Bool.and_self, Int.toNat_natCast, ZaK, ZaM, Zbc, hj1, List.drop_zero, Zay, true_and, wi]
    have e : noEv  (l.getD i []) = noEv  [(l.getD i []).getD 0 0, (l.getD i []).getD 1 0, (l.getD i []).getD 2 0, (l.getD i []).getD 3 0] := rfl
    cases ho : noEv  (l.getD i []) with
    | false => rw [e] at ho; rw [ho]; exact h2 (by rw [e]; exact ho)
    | true => rw [e] at ho; rw [ho]; exact h1 (by rw [e]; exact ho)
  · rw [Zs3]
    simp only [Zag, Int.ofNat_lt, Nat.lt_irrefl, decide_false, cond_false, true_and]
    exact h1
def ZqZ : Spec := fun ds Q => match ds with | [.c (.s 0 4 R sp), .c (.f 117 [] [.p 0 [.f 63 [] []] 0])] => cond (okZ 4 R) (Q (I (match (toZ R).findIdx? (noEv ) with | some i => (i : Int) | none => -1))) False | _ => False
theorem ZtP : Zac Tryz.prog 163 ZqZ := o_of Tryz.func163 (by kernel_rfl) rfl fun ds Q h => by
  unfold ZqZ at h; split at h
  · rename_i R sp 
    obtain ⟨h1, h2⟩ := Zaf h
    obtain ⟨e1, w1, n1⟩ := Zah h1
    rw [e1]
    rw [← Zat R] at n1
    generalize toZ R = l at *
    refine ⟨_, ZaH (l := []) (m := [(2, Zro  l sp)]) .nil mixed (Zbo rfl (by kernel_rfl) (ZtH  w1 n1)) Tryz.func163 rfl rfl rfl ?_, rfl, rfl, h2⟩
    rw [Zug]
    refine ⟨rfl, fun i hi => ?_, fun hn => ?_⟩
    · rw [hi.find]
    · rw [hn.find]
  · exact h.elim
theorem ZtE  (R sp : List (List D)) (K : DV → Prop) : (ask Tryz.prog [(163, ZqZ)] Tryz.f116 [dS 4 R sp, .c (.f 117 [] [.p 0 [.f 63 [] []] 0])] K) = (bif okZ (4) R then K (DV.c (D.v (Value.bool (decide ((match List.findIdx? noEv (toZ R) with | some i => @Nat.cast Int _ i | none => -1) ≥ 0))))) else False) := by kernel_rfl
def Zrk : Spec := fun ds Q => match ds with | [.c (.s 0 4 R sp), .c (.f 117 [] [.p 0 [.f 63 [] []] 0])] => cond (okZ 4 R) (Q (B ((toZ R).any (noEv )))) False | _ => False
theorem Zue : Zac Tryz.prog 116 Zrk := o_of Tryz.func116 (by kernel_rfl) rfl fun ds Q h => by
  unfold Zrk at h; split at h
  · obtain ⟨h1, h2⟩ := Zaf h
    refine ⟨_, Zaj (.cons ZtP .nil) mixed Tryz.func116 rfl rfl rfl ?_, rfl, rfl, h2⟩
    rw [ZtE, h1, Zea]; rfl
  · exact h.elim
theorem Zta (R : List (List D)) (K : DV → Prop) : (ask Tryz.prog [(116, Zrk)] Tryz.f67 [.c (.s 0 4 R []), .c (.f 63 [] [])] K) = (bif okZ (4) R then K (DV.c (D.v (Value.bool !List.any (toZ R) noEv))) else False) := by kernel_rfl
def Zgk : Spec := fun ds Q => match ds with | [.c d, .c (.f 63 [] [])] => cond d.isOwn False (Zb1 4 d fun R => cond (okZ 4 R) (Q (B (!(toZ R).any noEv))) False) | _ => False
theorem ZjF : Zac Tryz.prog 67 Zgk := o_al Tryz.func67 (by kernel_rfl) rfl fun ds Q h => by
  unfold Zgk at h; split at h
  · rename_i d
    cases hd : d.isOwn with
    | true => rw [hd] at h; exact h.elim
    | false =>
      rw [hd] at h
      obtain ⟨R, h, r1⟩ := Zas h
      obtain ⟨h1, h2⟩ := Zaf h
      refine ⟨_, _, .cons (.c r1 hd rfl) (.cons (.refl _) .nil), Zaj (.cons Zue .nil) mixed Tryz.func67 rfl rfl rfl ?_, rfl, rfl, h2⟩
      rw [Zta, h1]; rfl
  · exact h.elim
theorem eMIn (x m : Int) (K : DV → Prop) : (ask Tryz.prog [] Tryz.f113 [I x, I m] K) = (bif decide (x ≥ 0) then K (DV.c (D.v (Value.bool (decide (x ≤ m))))) else K (DV.c (D.v (Value.bool false)))) := by kernel_rfl
theorem oMIn : Zac Tryz.prog 113 sIn := o_of Tryz.func113 (by kernel_rfl) rfl fun ds Q h => by
  unfold sIn at h; split at h
  · refine ⟨_, Zaj .nil mixed Tryz.func113 rfl rfl rfl ?_, rfl, rfl, h⟩
    rw [eMIn]; rename_i x m; unfold upto; cases decide (x ≥ 0) <;> rfl
  · exact h.elim
def mx (a b : Int) : Int := if b > a then b else a
def mx4 (a b c d : Int) : Int := mx (mx (mx a b) c) d
theorem eMx4 (a b c d : Int) (K : DV → Prop) : (ask Tryz.prog [] Tryz.f62 [.c (.s 0 1 [[vi a], [vi b], [vi c], [vi d]] [])] K) = K (I (mx4 a b c d)) := by kernel_rfl
def sMx : Spec := fun ds Q => match ds with | [.c (.s 0 1 [[.v (.int .i64 a)], [.v (.int .i64 b)], [.v (.int .i64 c)], [.v (.int .i64 d)]] [])] => Q (I (mx4 a b c d)) | _ => False
theorem oMx : Zac Tryz.prog 62 sMx := o_of Tryz.func62 (by kernel_rfl) rfl fun ds Q h => by
  unfold sMx at h; split at h
  · rename_i a b c d
    exact ⟨_, Zaj .nil mixed Tryz.func62 rfl rfl rfl (by rw [eMx4]), rfl, rfl, h⟩
  · exact h.elim
end

section
open Go Go.Proofs
def SesD.on (q : SesD) (p r w : List (List Int)) : SesD := { q with pg := mZ p, rd := mZ r, wt := mZ w }
def ZaF (s : SesD) : Bool := okZ 4 s.pg && (okZ 3 s.rd && okZ 3 s.wt)
theorem Zmz {s : SesD} (h : ZaF s = true) : s = s.on (toZ s.pg) (toZ s.rd) (toZ s.wt) ∧ (wid 4 (toZ s.pg) ∧ (toZ s.pg).length ≤ 9223372036854775807) ∧ (wid 3 (toZ s.rd) ∧ (toZ s.rd).length ≤ 9223372036854775807) ∧ (wid 3 (toZ s.wt) ∧ (toZ s.wt).length ≤ 9223372036854775807) := by
  unfold ZaF at h
  simp only [Bool.and_eq_true] at h
  obtain ⟨h1, h2, h3⟩ := h
  obtain ⟨a1, a2, a3⟩ := Zah h1
  obtain ⟨b1, b2, b3⟩ := Zah h2
  obtain ⟨c1, c2, c3⟩ := Zah h3
  refine ⟨?_, ⟨a2, by rw [Zat]; exact a3⟩, ⟨b2, by rw [Zat]; exact b3⟩, ⟨c2, by rw [Zat]; exact c3⟩⟩
  obtain ⟨id, lb, cl, pg, st, pc, r0, r1, r2, r3, rd, wt, at', sp, tr, rs, to⟩ := s
  simp only [SesD.on] at a1 b1 c1 ⊢
  rw [← a1, ← b1, ← c1]
def Zb0 (R0 : List (List D)) (R1 : List (List D)) (R2 : List (List D)) (R3 : List (List D)) (q : SesD) (v : Bool) (i : Int) : X := ⟨mkT 70 [(2, .c (.rp 3 0 4 0 0)), (3, .c (.rp 4 0 17 0 0)), (4, ab v), (5, ai i)], [(3, .bx 0 4 [.d (.s 0 3 R0 []), .d (.s 0 3 R1 []), .d (.s 0 3 R2 []), .d (.s 0 3 R3 [])]), (4, .bx 0 17 ((sesL 0 q).map C.d))], [], []⟩
def ZeB (R0 : List (List D)) (R1 : List (List D)) (R2 : List (List D)) (R3 : List (List D)) (q : SesD) : Vw := fun y K => wB y 4 fun v => wI y 5 fun i => K (Zb0 R0 R1 R2 R3 q v i)
theorem Zg2 (R0 : List (List D)) (R1 : List (List D)) (R2 : List (List D)) (R3 : List (List D)) (q : SesD) : VwOK (ZeB R0 R1 R2 R3 q) := fun y K h => by
  unfold ZeB at h
  obtain ⟨v, h⟩ := Zdf h
  obtain ⟨i, h⟩ := Zbt h
  exact ⟨_, h⟩
theorem rWd1 (R0 : List (List D)) (R1 : List (List D)) (R2 : List (List D)) (R3 : List (List D)) (q : SesD) (v : Bool) (i : Int) (N : X → Prop) (E : Exit → X → Prop) : (Zbb Tryz.prog (hkA band bor [(164, ZeH)] []) Tryz.f120 0 [] [2, 3, 4, 5] [3, 4] (ZeB R0 R1 R2 R3 q) (fun _ => ZeB R0 R1 R2 R3 q) N E (Zb0 R0 R1 R2 R3 q v i)) = (bif decide (i < @Nat.cast Int _ (List.length q.pg)) then bif decide (0 ≤ i) && decide (i < @Nat.cast Int _ (List.length q.pg)) then bif isJ [IntKind.i64] (List.drop (0) (List.getD q.pg (Int.toNat i) [])) then bif hdJ (List.drop (0) (List.getD q.pg (Int.toNat i) [])) == 2 then bif decide (0 ≤ i) && decide (i < @Nat.cast Int _ (List.length q.pg)) then bif isJ [IntKind.i64] (List.drop (2) (List.getD q.pg (Int.toNat i) [])) then bif decide (0 ≤ i) && decide (i < @Nat.cast Int _ (List.length q.pg)) then bif isJ [IntKind.i64] (List.drop (3) (List.getD q.pg (Int.toNat i) [])) then bif !thr (List.length R0) (List.length R1) (List.length R2) (List.length R3) (hdJ (List.drop (2) (List.getD q.pg (Int.toNat i) []))) (hdJ (List.drop (3) (List.getD q.pg (Int.toNat i) []))) then Zb0 R0 R1 R2 R3 q false i = Zb0 R0 R1 R2 R3 q false i ∧ E Exit.ret (Zb0 R0 R1 R2 R3 q false i) else Zb0 R0 R1 R2 R3 q v (IntKind.wrap IntKind.i64 (i + 1)) = Zb0 R0 R1 R2 R3 q v (IntKind.wrap IntKind.i64 (i + 1)) ∧ N (Zb0 R0 R1 R2 R3 q v (IntKind.wrap IntKind.i64 (i + 1))) else False else False else False else False else bif hdJ (List.drop (0) (List.getD q.pg (Int.toNat i) [])) == 3 then bif decide (0 ≤ i) && decide (i < @Nat.cast Int _ (List.length q.pg)) then bif isJ [IntKind.i64] (List.drop (2) (List.getD q.pg (Int.toNat i) [])) then bif decide (0 ≤ i) && decide (i < @Nat.cast Int _ (List.length q.pg)) then bif isJ [IntKind.i64] (List.drop (3) (List.getD q.pg (Int.toNat i) [])) then bif !thr (List.length R0) (List.length R1) (List.length R2) (List.length R3) (hdJ (List.drop (2) (List.getD q.pg (Int.toNat i) []))) (hdJ (List.drop (3) (List.getD q.pg (Int.toNat i) []))) then Zb0 R0 R1 R2 R3 q false i = Zb0 R0 R1 R2 R3 q false i ∧ E Exit.ret (Zb0 R0 R1 R2 R3 q false i) else Zb0 R0 R1 R2 R3 q v (IntKind.wrap IntKind.i64 (i + 1)) = Zb0 R0 R1 R2 R3 q v (IntKind.wrap IntKind.i64 (i + 1)) ∧ N (Zb0 R0 R1 R2 R3 q v (IntKind.wrap IntKind.i64 (i + 1))) else False else False else False else False else Zb0 R0 R1 R2 R3 q v (IntKind.wrap IntKind.i64 (i + 1)) = Zb0 R0 R1 R2 R3 q v (IntKind.wrap IntKind.i64 (i + 1)) ∧ N (Zb0 R0 R1 R2 R3 q v (IntKind.wrap IntKind.i64 (i + 1))) else False else False else Zb0 R0 R1 R2 R3 q v i = Zb0 R0 R1 R2 R3 q v i ∧ E (Exit.exit (0)) (Zb0 R0 R1 R2 R3 q v i)) := by kernel_rfl
def fWd1 (a b c d : List (List Int)) (q : SesD) (p r w : List (List Int)) : LSum := ZcH [2, 3, 4, 5] [3, 4] (fun i => Zb0 (mZ a) (mZ b) (mZ c) (mZ d) (q.on p r w) false i) (fun i => Zb0 (mZ a) (mZ b) (mZ c) (mZ d) (q.on p r w) false i) p.length (fun i => noIn (mZ a) (mZ b) (mZ c) (mZ d) (p.getD i [])) .ret (.exit 0)
theorem kWd1 {a b c d : List (List Int)} {q : SesD} {p r w : List (List Int)} (hw : wid 4 p) (hn : p.length ≤ 9223372036854775807) (Q : Exit → X → Prop) (x : X) (h : fWd1 a b c d q p r w Q x) : XWP Tryz.prog (.loop (Zak Tryz.f120 0)) Q x := by
  refine Zbj (sw := []) (V := ZeB (mZ a) (mZ b) (mZ c) (mZ d) (q.on p r w)) (VE := fun _ => ZeB (mZ a) (mZ b) (mZ c) (mZ d) (q.on p r w)) mixed (Zg2 (mZ a) (mZ b) (mZ c) (mZ d) (q.on p r w)) (fun _ => Zg2 (mZ a) (mZ b) (mZ c) (mZ d) (q.on p r w)) _ _ _ _ _ _ (fun i hl => ⟨hkA band bor [(164, ZeH)] [], ZaI (.cons ZjM .nil), Zae rfl, fun N E h1 h2 => ?_⟩) ⟨hkA band bor [(164, ZeH)] [], ZaI (.cons ZjM .nil), Zae rfl, fun N E h1 => ?_⟩ Q x h
  · rw [rWd1]
    have wi : IntKind.wrap .i64 ((i : Int) + 1) = ((i + 1 : Nat) : Int) := Zai (n := 1) (by omega)
    have a0 : isJ [IntKind.i64] ((mZ p).getD i []) = true := Zap (j := 0) (n := 1) hw hl (by omega)
    have a1 : isJ [IntKind.i64] (List.drop 1 ((mZ p).getD i [])) = true := Zap (j := 1) (n := 1) hw hl (by omega)
    have a2 : isJ [IntKind.i64] (List.drop 2 ((mZ p).getD i [])) = true := Zap (j := 2) (n := 1) hw hl (by omega)
    have a3 : isJ [IntKind.i64] (List.drop 3 ((mZ p).getD i [])) = true := Zap (j := 3) (n := 1) hw hl (by omega)
    have a9 : isJ [IntKind.i64, IntKind.i64, IntKind.i64, IntKind.i64] ((mZ p).getD i []) = true := Zap (j := 0) (n := 4) hw hl (by omega)
    simp only [SesD.on, Zag, Int.ofNat_lt, hl, decide_true, cond_true, Int.natCast_nonneg, Bool.and_self, Int.toNat_natCast, a0, a1, a2, a3, a9, List.drop_zero, Zay, Zct, ZaK, ZaM, Zbc, true_and, wi] at h1 h2 ⊢
    unfold noIn thW at h1 h2
    simp only [Zag] at h1 h2
    unfold isRW at h1 h2
    generalize thr a.length b.length c.length d.length ((p.getD i []).getD 2 0) ((p.getD i []).getD 3 0) = u at h1 h2 ⊢
    cases e2 : ((p.getD i []).getD 0 0 == 2) <;> cases e3 : ((p.getD i []).getD 0 0 == 3) <;> cases u <;> simp only [e2, e3, cond_true, cond_false, Bool.not_true, Bool.not_false, Bool.and_true, Bool.and_false, Bool.true_and, Bool.false_and, forall_const, reduceCtorEq, false_implies] at h1 h2 ⊢ <;> first | exact h1 | exact h2 | exact h1 trivial | exact h2 trivial
  · rw [rWd1]
    simp only [SesD.on, Zag, Int.ofNat_lt, Nat.lt_irrefl, decide_false, cond_false, true_and]
    exact h1
def Zdy (R0 : List (List D)) (R1 : List (List D)) (R2 : List (List D)) (R3 : List (List D)) (q : SesD) (v : Bool) (i : Int) : X := ⟨mkT 70 [(2, .c (.rp 3 0 4 0 0)), (3, .c (.rp 4 0 17 0 0)), (4, ab v), (7, ai i)], [(3, .bx 0 4 [.d (.s 0 3 R0 []), .d (.s 0 3 R1 []), .d (.s 0 3 R2 []), .d (.s 0 3 R3 [])]), (4, .bx 0 17 ((sesL 0 q).map C.d))], [], []⟩
def ZeM (R0 : List (List D)) (R1 : List (List D)) (R2 : List (List D)) (R3 : List (List D)) (q : SesD) : Vw := fun y K => wB y 4 fun v => wI y 7 fun i => K (Zdy R0 R1 R2 R3 q v i)
theorem Zhj (R0 : List (List D)) (R1 : List (List D)) (R2 : List (List D)) (R3 : List (List D)) (q : SesD) : VwOK (ZeM R0 R1 R2 R3 q) := fun y K h => by
  unfold ZeM at h
  obtain ⟨v, h⟩ := Zdf h
  obtain ⟨i, h⟩ := Zbt h
  exact ⟨_, h⟩
theorem rWd2 (R0 : List (List D)) (R1 : List (List D)) (R2 : List (List D)) (R3 : List (List D)) (q : SesD) (v : Bool) (i : Int) (N : X → Prop) (E : Exit → X → Prop) : (Zbb Tryz.prog (hkA band bor [(164, ZeH)] []) Tryz.f120 1 [] [2, 3, 4, 7] [3, 4] (ZeM R0 R1 R2 R3 q) (fun _ => ZeM R0 R1 R2 R3 q) N E (Zdy R0 R1 R2 R3 q v i)) = (bif decide (i < @Nat.cast Int _ (List.length q.wt)) then bif decide (0 ≤ i) && decide (i < @Nat.cast Int _ (List.length q.wt)) then bif isJ [IntKind.i64] (List.drop (0) (List.getD q.wt (Int.toNat i) [])) then bif decide (0 ≤ i) && decide (i < @Nat.cast Int _ (List.length q.wt)) then bif isJ [IntKind.i64] (List.drop (1) (List.getD q.wt (Int.toNat i) [])) then bif !thr (List.length R0) (List.length R1) (List.length R2) (List.length R3) (hdJ (List.drop (0) (List.getD q.wt (Int.toNat i) []))) (hdJ (List.drop (1) (List.getD q.wt (Int.toNat i) []))) then Zdy R0 R1 R2 R3 q false i = Zdy R0 R1 R2 R3 q false i ∧ E Exit.ret (Zdy R0 R1 R2 R3 q false i) else Zdy R0 R1 R2 R3 q v (IntKind.wrap IntKind.i64 (i + 1)) = Zdy R0 R1 R2 R3 q v (IntKind.wrap IntKind.i64 (i + 1)) ∧ N (Zdy R0 R1 R2 R3 q v (IntKind.wrap IntKind.i64 (i + 1))) else False else False else False else False else Zdy R0 R1 R2 R3 q v i = Zdy R0 R1 R2 R3 q v i ∧ E (Exit.exit (2)) (Zdy R0 R1 R2 R3 q v i)) := by kernel_rfl
def fWd2 (a b c d : List (List Int)) (q : SesD) (p r w : List (List Int)) : LSum := ZcH [2, 3, 4, 7] [3, 4] (fun i => Zdy (mZ a) (mZ b) (mZ c) (mZ d) (q.on p r w) false i) (fun i => Zdy (mZ a) (mZ b) (mZ c) (mZ d) (q.on p r w) false i) w.length (fun i => noWr (mZ a) (mZ b) (mZ c) (mZ d) (w.getD i [])) .ret (.exit 2)
theorem kWd2 {a b c d : List (List Int)} {q : SesD} {p r w : List (List Int)} (hw : wid 3 w) (hn : w.length ≤ 9223372036854775807) (Q : Exit → X → Prop) (x : X) (h : fWd2 a b c d q p r w Q x) : XWP Tryz.prog (.loop (Zak Tryz.f120 1)) Q x := by
  refine Zbj (sw := []) (V := ZeM (mZ a) (mZ b) (mZ c) (mZ d) (q.on p r w)) (VE := fun _ => ZeM (mZ a) (mZ b) (mZ c) (mZ d) (q.on p r w)) mixed (Zhj (mZ a) (mZ b) (mZ c) (mZ d) (q.on p r w)) (fun _ => Zhj (mZ a) (mZ b) (mZ c) (mZ d) (q.on p r w)) _ _ _ _ _ _ (fun i hl => ⟨hkA band bor [(164, ZeH)] [], ZaI (.cons ZjM .nil), Zae rfl, fun N E h1 h2 => ?_⟩) ⟨hkA band bor [(164, ZeH)] [], ZaI (.cons ZjM .nil), Zae rfl, fun N E h1 => ?_⟩ Q x h
  · rw [rWd2]
    have wi : IntKind.wrap .i64 ((i : Int) + 1) = ((i + 1 : Nat) : Int) := Zai (n := 1) (by omega)
    have a0 : isJ [IntKind.i64] ((mZ w).getD i []) = true := Zap (j := 0) (n := 1) hw hl (by omega)
    have a1 : isJ [IntKind.i64] (List.drop 1 ((mZ w).getD i [])) = true := Zap (j := 1) (n := 1) hw hl (by omega)
    have a2 : isJ [IntKind.i64] (List.drop 2 ((mZ w).getD i [])) = true := Zap (j := 2) (n := 1) hw hl (by omega)
    have a9 : isJ [IntKind.i64, IntKind.i64, IntKind.i64] ((mZ w).getD i []) = true := Zap (j := 0) (n := 3) hw hl (by omega)
    simp only [SesD.on, Zag, Int.ofNat_lt, hl, decide_true, cond_true, Int.natCast_nonneg, Bool.and_self, Int.toNat_natCast, a0, a1, a2, a9, List.drop_zero, Zay, Zct, ZaK, ZaM, Zbc, true_and, wi] at h1 h2 ⊢
    unfold noWr thW at h1 h2
    simp only [Zag] at h1 h2
    generalize thr a.length b.length c.length d.length ((w.getD i []).getD 0 0) ((w.getD i []).getD 1 0) = u at h1 h2 ⊢
    cases u <;> simp only [cond_true, cond_false, Bool.not_true, Bool.not_false, forall_const, reduceCtorEq, false_implies] at h1 h2 ⊢ <;> first | exact h1 | exact h2 | exact h1 trivial | exact h2 trivial
  · rw [rWd2]
    simp only [SesD.on, Zag, Int.ofNat_lt, Nat.lt_irrefl, decide_false, cond_false, true_and]
    exact h1
theorem ZqG {P : Program} {l : List (FuncId × Spec)} {fn : Func} {k1 k2 : Nat} {s1 s2 : LSum} (hn : (Za1 (Zav fn)).length = 2) (e1 : Zby (Zak fn 0) = k1) (e2 : Zby (Zak fn 1) = k2) (hne : Nat.beq k1 k2 = false) (h1 : ∀ Q x, s1 Q x → XWP P (.loop (Zak fn 0)) Q x) (h2 : ∀ Q x, s2 Q x → XWP P (.loop (Zak fn 1)) Q x) : Zau P (hkl l [(k1, s1), (k2, s2)]) (Zav fn) :=
  ZcK 2 hn fun i hi s hs Q x hq => by
    match i, hi with
    | 0, _ =>
      rw [e1] at hs
      have hs' : some s1 = some s := by simpa [Zc0, hkl, hkA, Zba] using hs
      cases hs'
      exact h1 Q x hq
    | 1, _ =>
      rw [e2] at hs
      have hs' : some s2 = some s := by simpa [Zc0, hkl, hkA, Zba, hne] using hs
      cases hs'
      exact h2 Q x hq
theorem eWds (a b c d : List (List Int)) (q : SesD) (p r w : List (List Int)) (K : DV → Prop) : (askL Tryz.prog [(164, ZeH), (165, sRT)] [(2, fWd1 a b c d q p r w), (8, fWd2 a b c d q p r w)] Tryz.f120 [.agg (wsL (mZ a) (mZ b) (mZ c) (mZ d)), .agg (sesL 0 (q.on p r w))] K) = (Zb0 (mZ a) (mZ b) (mZ c) (mZ d) { id := q.id, lb := q.lb, cl := q.cl, pg := mZ p, st := q.st, pc := q.pc, r0 := q.r0, r1 := q.r1, r2 := q.r2, r3 := q.r3, rd := mZ r, wt := mZ w, at' := q.at', sp := q.sp, tr := q.tr, rs := q.rs, to := q.to } false (0) = Zb0 (mZ a) (mZ b) (mZ c) (mZ d) { id := q.id, lb := q.lb, cl := q.cl, pg := mZ p, st := q.st, pc := q.pc, r0 := q.r0, r1 := q.r1, r2 := q.r2, r3 := q.r3, rd := mZ r, wt := mZ w, at' := q.at', sp := q.sp, tr := q.tr, rs := q.rs, to := q.to } false (0) ∧ (∀ (i : Nat), firstAt (fun i => noIn (mZ a) (mZ b) (mZ c) (mZ d) (List.getD p i [])) (List.length p) i → K (DV.c (D.v (Value.bool false)))) ∧ (noneTo (fun i => noIn (mZ a) (mZ b) (mZ c) (mZ d) (List.getD p i [])) (List.length p) → Zdy (mZ a) (mZ b) (mZ c) (mZ d) { id := q.id, lb := q.lb, cl := q.cl, pg := mZ p, st := q.st, pc := q.pc, r0 := q.r0, r1 := q.r1, r2 := q.r2, r3 := q.r3, rd := mZ r, wt := mZ w, at' := q.at', sp := q.sp, tr := q.tr, rs := q.rs, to := q.to } false (0) = Zdy (mZ a) (mZ b) (mZ c) (mZ d) { id := q.id, lb := q.lb, cl := q.cl, pg := mZ p, st := q.st, pc := q.pc, r0 := q.r0, r1 := q.r1, r2 := q.r2, r3 := q.r3, rd := mZ r, wt := mZ w, at' := q.at', sp := q.sp, tr := q.tr, rs := q.rs, to := q.to } false (0) ∧ (∀ (i : Nat), firstAt (fun i => noWr (mZ a) (mZ b) (mZ c) (mZ d) (List.getD w i [])) (List.length w) i → K (DV.c (D.v (Value.bool false)))) ∧ (noneTo (fun i => noWr (mZ a) (mZ b) (mZ c) (mZ d) (List.getD w i [])) (List.length w) → bif okA (mZ a) (mZ b) (mZ c) (mZ d) && okZ (3) (mZ r) then K (DV.c (D.v (Value.bool (List.all (toZ (mZ r)) (thv (toZ (mZ a)) (toZ (mZ b)) (toZ (mZ c)) (toZ (mZ d))))))) else False))) := by kernel_rfl
end

section
open Go Go.Proofs
def Zl4 (R0 R1 R2 R3 : List (List D)) (s : SesD) : Bool := rmay (toZ s.rd) && (Zft (toZ s.wt) && (!(toZ s.rd).any (noRd R0 R1 R2 R3) && (!(toZ s.wt).any (noWr R0 R1 R2 R3) && !(toZ s.pg).any (noIn R0 R1 R2 R3))))
def farB (s : SesD) : Bool := upto s.pc 0 s.pg.length && (upto s.at' 0 s.wt.length && (upto s.st 0 6 && upto s.rs 0 5))
def Znm (s : SesD) : Bool := v4 s.r0 s.r1 s.r2 s.r3 && (clk s.sp && (clk s.tr && val8 s.to))
def Zan (R0 R1 R2 R3 : List (List D)) (s : SesD) : Bool := smay s.id s.lb s.cl (toZ s.pg) && (Zl4 R0 R1 R2 R3 s && (farB s && Znm s))
def stL0 (R0 : List (List D)) (R1 : List (List D)) (R2 : List (List D)) (R3 : List (List D)) (s : SesD)  : X := ⟨mkT 97 [(2, .c (.rp 3 0 1 0 0)), (3, .c (.rp 4 0 17 0 0))], [(3, .bx 0 1 [.d (.p 0 (wsL R0 R1 R2 R3) 0)]), (4, .bx 0 17 ((sesL 0 s).map C.d))], [], []⟩
def ZmY (R0 : List (List D)) (R1 : List (List D)) (R2 : List (List D)) (R3 : List (List D)) (s : SesD) : Vw := fun y K => K (stL0 R0 R1 R2 R3 s )
theorem ZnA (R0 : List (List D)) (R1 : List (List D)) (R2 : List (List D)) (R3 : List (List D)) (s : SesD) : VwOK (ZmY R0 R1 R2 R3 s) := fun y K h => by
  unfold ZmY at h
  exact ⟨_, h⟩
def stL1 (R0 : List (List D)) (R1 : List (List D)) (R2 : List (List D)) (R3 : List (List D)) (s : SesD) (b1 : Bool) : X := ⟨mkT 97 [(2, .c (.rp 3 0 1 0 0)), (3, .c (.rp 4 0 17 0 0)), (5, ab b1)], [(3, .bx 0 1 [.d (.p 0 (wsL R0 R1 R2 R3) 0)]), (4, .bx 0 17 ((sesL 0 s).map C.d))], [], []⟩
def ZnJ (R0 : List (List D)) (R1 : List (List D)) (R2 : List (List D)) (R3 : List (List D)) (s : SesD) : Vw := fun y K => wB y 5 fun b1 => K (stL1 R0 R1 R2 R3 s b1)
theorem ZoM (R0 : List (List D)) (R1 : List (List D)) (R2 : List (List D)) (R3 : List (List D)) (s : SesD) : VwOK (ZnJ R0 R1 R2 R3 s) := fun y K h => by
  unfold ZnJ at h
  obtain ⟨b1, h⟩ := Zdf h
  exact ⟨_, h⟩
def stL2 (R0 : List (List D)) (R1 : List (List D)) (R2 : List (List D)) (R3 : List (List D)) (s : SesD) (b1 : Bool) (b2 : Bool) : X := ⟨mkT 97 [(2, .c (.rp 3 0 1 0 0)), (3, .c (.rp 4 0 17 0 0)), (5, ab b1), (6, ab b2)], [(3, .bx 0 1 [.d (.p 0 (wsL R0 R1 R2 R3) 0)]), (4, .bx 0 17 ((sesL 0 s).map C.d))], [], []⟩
def Znu (R0 : List (List D)) (R1 : List (List D)) (R2 : List (List D)) (R3 : List (List D)) (s : SesD) : Vw := fun y K => wB y 5 fun b1 => wB y 6 fun b2 => K (stL2 R0 R1 R2 R3 s b1 b2)
theorem Zop (R0 : List (List D)) (R1 : List (List D)) (R2 : List (List D)) (R3 : List (List D)) (s : SesD) : VwOK (Znu R0 R1 R2 R3 s) := fun y K h => by
  unfold Znu at h
  obtain ⟨b1, h⟩ := Zdf h
  obtain ⟨b2, h⟩ := Zdf h
  exact ⟨_, h⟩
def stL3 (R0 : List (List D)) (R1 : List (List D)) (R2 : List (List D)) (R3 : List (List D)) (s : SesD) (b1 : Bool) (b2 : Bool) (b3 : Bool) : X := ⟨mkT 97 [(2, .c (.rp 3 0 1 0 0)), (3, .c (.rp 4 0 17 0 0)), (5, ab b1), (6, ab b2), (7, ab b3)], [(3, .bx 0 1 [.d (.p 0 (wsL R0 R1 R2 R3) 0)]), (4, .bx 0 17 ((sesL 0 s).map C.d))], [], []⟩
def Znn (R0 : List (List D)) (R1 : List (List D)) (R2 : List (List D)) (R3 : List (List D)) (s : SesD) : Vw := fun y K => wB y 5 fun b1 => wB y 6 fun b2 => wB y 7 fun b3 => K (stL3 R0 R1 R2 R3 s b1 b2 b3)
theorem ZoS (R0 : List (List D)) (R1 : List (List D)) (R2 : List (List D)) (R3 : List (List D)) (s : SesD) : VwOK (Znn R0 R1 R2 R3 s) := fun y K h => by
  unfold Znn at h
  obtain ⟨b1, h⟩ := Zdf h
  obtain ⟨b2, h⟩ := Zdf h
  obtain ⟨b3, h⟩ := Zdf h
  exact ⟨_, h⟩
def stL4 (R0 : List (List D)) (R1 : List (List D)) (R2 : List (List D)) (R3 : List (List D)) (s : SesD) (b : Bool) : X := ⟨mkT 97 [(4, ab b)], [], [], []⟩
def ZoC (R0 : List (List D)) (R1 : List (List D)) (R2 : List (List D)) (R3 : List (List D)) (s : SesD) : Vw := fun y K => wB y 4 fun b => K (stL4 R0 R1 R2 R3 s b)
theorem ZnW (R0 : List (List D)) (R1 : List (List D)) (R2 : List (List D)) (R3 : List (List D)) (s : SesD) : VwOK (ZoC R0 R1 R2 R3 s) := fun y K h => by
  unfold ZoC at h
  obtain ⟨b, h⟩ := Zdf h
  exact ⟨_, h⟩
theorem eL0 (R0 : List (List D)) (R1 : List (List D)) (R2 : List (List D)) (R3 : List (List D)) (s : SesD) (N : X → Prop) : (ZkS Tryz.prog (hk []) (partOf Tryz.f66 0) [2, 3] [3, 4] (ZmY R0 R1 R2 R3 s) N (ZbU 97 [.agg [.p 0 (wsL R0 R1 R2 R3) 0], .agg (sesL 0 s)])) = (stL0 R0 R1 R2 R3 s = stL0 R0 R1 R2 R3 s ∧ N (stL0 R0 R1 R2 R3 s)) := by kernel_rfl
theorem eL1 (R0 : List (List D)) (R1 : List (List D)) (R2 : List (List D)) (R3 : List (List D)) (s : SesD) (N : X → Prop) : (ZkS Tryz.prog (hk [(89, ZiV)]) (partOf Tryz.f66 1) [2, 3, 5] [3, 4] (ZnJ R0 R1 R2 R3 s) N (stL0 R0 R1 R2 R3 s)) = (bif okZ (4) s.pg then stL1 R0 R1 R2 R3 s (smay s.id s.lb s.cl (toZ s.pg)) = stL1 R0 R1 R2 R3 s (smay s.id s.lb s.cl (toZ s.pg)) ∧ N (stL1 R0 R1 R2 R3 s (smay s.id s.lb s.cl (toZ s.pg))) else False) := by kernel_rfl
theorem eL2 (R0 : List (List D)) (R1 : List (List D)) (R2 : List (List D)) (R3 : List (List D)) (s : SesD) (b1 : Bool) (N : X → Prop) : (ZkS Tryz.prog (hk [(105, sRM), (106, sWMy), (107, ZmZ), (109, Znj), (111, ZnN)]) (partOf Tryz.f66 2) [2, 3, 5, 6] [3, 4] (Znu R0 R1 R2 R3 s) N (stL1 R0 R1 R2 R3 s b1)) = (bif okZ (3) s.rd then bif rmay (toZ s.rd) then bif okZ (3) s.wt then bif Zft (toZ s.wt) then bif okZ (3) s.rd then bif !List.any (toZ s.rd) (noRd R0 R1 R2 R3) then bif okZ (3) s.wt then bif !List.any (toZ s.wt) (noWr R0 R1 R2 R3) then bif okZ (4) s.pg then (stL2 R0 R1 R2 R3 s b1 !List.any (toZ s.pg) (noIn R0 R1 R2 R3)) = stL2 R0 R1 R2 R3 s b1 !List.any (toZ s.pg) (noIn R0 R1 R2 R3) ∧ N (stL2 R0 R1 R2 R3 s b1 !List.any (toZ s.pg) (noIn R0 R1 R2 R3)) else False else stL2 R0 R1 R2 R3 s b1 false = stL2 R0 R1 R2 R3 s b1 false ∧ N (stL2 R0 R1 R2 R3 s b1 false) else False else stL2 R0 R1 R2 R3 s b1 false = stL2 R0 R1 R2 R3 s b1 false ∧ N (stL2 R0 R1 R2 R3 s b1 false) else False else stL2 R0 R1 R2 R3 s b1 false = stL2 R0 R1 R2 R3 s b1 false ∧ N (stL2 R0 R1 R2 R3 s b1 false) else False else stL2 R0 R1 R2 R3 s b1 false = stL2 R0 R1 R2 R3 s b1 false ∧ N (stL2 R0 R1 R2 R3 s b1 false) else False) := by kernel_rfl
theorem eL3 (R0 : List (List D)) (R1 : List (List D)) (R2 : List (List D)) (R3 : List (List D)) (s : SesD) (b1 : Bool) (b2 : Bool) (N : X → Prop) : (ZkS Tryz.prog (hk [(113, sIn)]) (partOf Tryz.f66 3) [2, 3, 5, 6, 7] [3, 4] (Znn R0 R1 R2 R3 s) N (stL2 R0 R1 R2 R3 s b1 b2)) = (bif upto s.pc (0) (@Nat.cast Int _ (List.length s.pg)) then bif upto s.at' (0) (@Nat.cast Int _ (List.length s.wt)) then bif upto s.st (0) (6) then stL3 R0 R1 R2 R3 s b1 b2 (upto s.rs (0) (5)) = stL3 R0 R1 R2 R3 s b1 b2 (upto s.rs (0) (5)) ∧ N (stL3 R0 R1 R2 R3 s b1 b2 (upto s.rs (0) (5))) else stL3 R0 R1 R2 R3 s b1 b2 false = stL3 R0 R1 R2 R3 s b1 b2 false ∧ N (stL3 R0 R1 R2 R3 s b1 b2 false) else stL3 R0 R1 R2 R3 s b1 b2 false = stL3 R0 R1 R2 R3 s b1 b2 false ∧ N (stL3 R0 R1 R2 R3 s b1 b2 false) else stL3 R0 R1 R2 R3 s b1 b2 false = stL3 R0 R1 R2 R3 s b1 b2 false ∧ N (stL3 R0 R1 R2 R3 s b1 b2 false)) := by kernel_rfl
theorem eL4 (R0 : List (List D)) (R1 : List (List D)) (R2 : List (List D)) (R3 : List (List D)) (s : SesD) (b1 : Bool) (b2 : Bool) (b3 : Bool) (N : X → Prop) : (ZkS Tryz.prog (hk [(114, sRgM), (102, sB clk), (115, sB val8)]) (partOf Tryz.f66 4) [4] [] (ZoC R0 R1 R2 R3 s) N (stL3 R0 R1 R2 R3 s b1 b2 b3)) = (bif b1 then bif b2 then bif b3 then bif v4 s.r0 s.r1 s.r2 s.r3 then bif clk s.sp then bif clk s.tr then stL4 R0 R1 R2 R3 s (val8 s.to) = stL4 R0 R1 R2 R3 s (val8 s.to) ∧ N (stL4 R0 R1 R2 R3 s (val8 s.to)) else stL4 R0 R1 R2 R3 s false = stL4 R0 R1 R2 R3 s false ∧ N (stL4 R0 R1 R2 R3 s false) else stL4 R0 R1 R2 R3 s false = stL4 R0 R1 R2 R3 s false ∧ N (stL4 R0 R1 R2 R3 s false) else stL4 R0 R1 R2 R3 s false = stL4 R0 R1 R2 R3 s false ∧ N (stL4 R0 R1 R2 R3 s false) else stL4 R0 R1 R2 R3 s false = stL4 R0 R1 R2 R3 s false ∧ N (stL4 R0 R1 R2 R3 s false) else stL4 R0 R1 R2 R3 s false = stL4 R0 R1 R2 R3 s false ∧ N (stL4 R0 R1 R2 R3 s false) else stL4 R0 R1 R2 R3 s false = stL4 R0 R1 R2 R3 s false ∧ N (stL4 R0 R1 R2 R3 s false)) := by kernel_rfl
theorem eL5 (R0 : List (List D)) (R1 : List (List D)) (R2 : List (List D)) (R3 : List (List D)) (s : SesD) (b : Bool) (K : DV → Prop) : (evp Tryz.prog (hk []) 200 (partOf Tryz.f66 5) (fun e y => match e with | .normal => finX Tryz.prog Tryz.f66 K .normal y | e => finX Tryz.prog Tryz.f66 K e y) (stL4 R0 R1 R2 R3 s b)) = (K (DV.c (D.v (Value.bool b)))) := by kernel_rfl
theorem Zsy : seqs (Zav Tryz.f66) = [partOf Tryz.f66 0, partOf Tryz.f66 1, partOf Tryz.f66 2, partOf Tryz.f66 3, partOf Tryz.f66 4, partOf Tryz.f66 5] := by kernel_rfl
theorem cLS (R0 R1 R2 R3 : List (List D)) (s : SesD) (hs : ZaF s = true) : CT Tryz.prog 66 [.agg [.p 0 (wsL R0 R1 R2 R3) 0], .agg (sesL 0 s)] (B (Zan R0 R1 R2 R3 s)) := by
  unfold ZaF at hs
  simp only [Bool.and_eq_true] at hs
  obtain ⟨h1, h2, h3⟩ := hs
  refine ZnQ Tryz.func66 (c := Zav Tryz.f66) rfl (Nat.le_of_ble_eq_true rfl) rfl (Zo4 _ _ _ ?_)
  rw [Zsy]
  refine ZfO (ts := [2, 3]) (ks := [3, 4]) (ZkI .nil) mixed ZbK (by simp) (ZnA R0 R1 R2 R3 s) ?_
  show ZkS Tryz.prog _ _ _ _ _ _ (ZbU 97 _)
  rw [eL0]
  refine ⟨rfl, ZfO (ts := [2, 3, 5]) (ks := [3, 4]) (ZkI (.cons ZqW .nil)) mixed ZbK (by simp) (ZoM R0 R1 R2 R3 s) ?_⟩
  rw [eL1]
  simp only [h1, cond_true]
  refine ⟨trivial, ?_⟩
  generalize hb1 : smay s.id s.lb s.cl (toZ s.pg) = b1
  refine ZfO (ts := [2, 3, 5, 6]) (ks := [3, 4]) (ZkI (.cons oRM (.cons oWMy (.cons Zsw (.cons Zs1 (.cons ZsL .nil)))))) mixed ZbK (by simp) (Zop R0 R1 R2 R3 s) ?_
  suffices key2 : XS Tryz.prog [partOf Tryz.f66 3, partOf Tryz.f66 4, partOf Tryz.f66 5] (finX Tryz.prog Tryz.f66 fun r => r = B (Zan R0 R1 R2 R3 s)) (stL2 R0 R1 R2 R3 s b1 (Zl4 R0 R1 R2 R3 s)) by
    rw [eL2]
    simp only [h1, h2, h3, cond_true]
    unfold Zl4 at key2
    cases q1 : rmay (toZ s.rd) <;> cases q2 : Zft (toZ s.wt) <;> cases q3 : !(toZ s.rd).any (noRd R0 R1 R2 R3) <;> cases q4 : !(toZ s.wt).any (noWr R0 R1 R2 R3) <;> cases q5 : !(toZ s.pg).any (noIn R0 R1 R2 R3) <;>
      simp only [q1, q2, q3, q4, q5, cond_true, cond_false, Bool.and_true, Bool.and_false, Bool.true_and, Bool.false_and, true_and] at key2 ⊢ <;> exact key2
  generalize hb2 : Zl4 R0 R1 R2 R3 s = b2
  refine ZfO (ts := [2, 3, 5, 6, 7]) (ks := [3, 4]) (ZkI (.cons oMIn .nil)) mixed ZbK (by simp) (ZoS R0 R1 R2 R3 s) ?_
  suffices key3 : XS Tryz.prog [partOf Tryz.f66 4, partOf Tryz.f66 5] (finX Tryz.prog Tryz.f66 fun r => r = B (Zan R0 R1 R2 R3 s)) (stL3 R0 R1 R2 R3 s b1 b2 (farB s)) by
    rw [eL3]
    unfold farB at key3
    cases q1 : upto s.pc 0 s.pg.length <;> cases q2 : upto s.at' 0 s.wt.length <;> cases q3 : upto s.st 0 6 <;> cases q4 : upto s.rs 0 5 <;>
      simp only [q1, q2, q3, q4, cond_true, cond_false, Bool.and_true, Bool.and_false, Bool.true_and, Bool.false_and, true_and] at key3 ⊢ <;> exact key3
  generalize hb3 : farB s = b3
  refine ZfO (ts := [4]) (ks := []) (ZkI (.cons oRgM (.cons oClk (.cons oVal .nil)))) mixed ZbK (by simp) (ZnW R0 R1 R2 R3 s) ?_
  suffices key4 : XS Tryz.prog [partOf Tryz.f66 5] (finX Tryz.prog Tryz.f66 fun r => r = B (Zan R0 R1 R2 R3 s)) (stL4 R0 R1 R2 R3 s (b1 && (b2 && (b3 && Znm s)))) by
    rw [eL4]
    unfold Znm at key4
    cases b1 <;> cases b2 <;> cases b3 <;> cases q1 : v4 s.r0 s.r1 s.r2 s.r3 <;> cases q2 : clk s.sp <;> cases q3 : clk s.tr <;> cases q4 : val8 s.to <;>
      simp only [q1, q2, q3, q4, cond_true, cond_false, Bool.and_true, Bool.and_false, Bool.true_and, Bool.false_and, true_and] at key4 ⊢ <;> exact key4
  refine ZrF (ZkI .nil) mixed ZbK ?_
  have h5 := eL5 R0 R1 R2 R3 s (b1 && (b2 && (b3 && Znm s))) (fun r => r = B (Zan R0 R1 R2 R3 s))
  refine h5.mpr ?_
  rw [← hb1, ← hb2, ← hb3]; rfl
end

end Vm
