/- An interpreter for Go's texts over plain data, its proof, and what it says of the functions that the law reaches. My own work. -/
import Derived.Test.YtnhodnfnlnccaaaGreatCl5
set_option linter.unusedSimpArgs false
set_option linter.unusedVariables false
set_option maxRecDepth 100000
set_option maxHeartbeats 2000000
namespace Vm
section
open Go Go.Proofs
def lX (R : List (List D)) : Bool := decide (0 + List.length R ≤ List.length (R ++ []))
def cC (R : List (List D)) : List (List D) := cut (R ++ []) 0 (List.length R)
def cD (R : List (List D)) : List (List D) := cut (R ++ []) (0 + List.length R) (List.length R + 0 - List.length R)
def aX (R : List (List D)) : Bool := allV (R ++ [])
theorem lX_t (R : List (List D)) : lX R = true := by simp [lX]
theorem cC_e (R : List (List D)) : cC R = R := by unfold cC; rw [List.append_nil]; exact ZrD rfl
theorem cD_e (R : List (List D)) : cD R = [] := by simp [cD, cut]
theorem kX_t {R : List (List D)} (h : allV R = true) : kX R = true := by
  unfold kX
  rw [List.append_nil, Zaw h]; simp
theorem aX_t {R : List (List D)} (h : allV R = true) : aX R = true := by unfold aX; rwa [List.append_nil]
theorem tC_e (R : List (List D)) : tC R = R := by simp [tC]
theorem tD_e (R : List (List D)) : tD R = [] := by simp [tD]
def Zqc (h : Mh) (ss : List SesD) (i : Int) (W0 W1 W2 W3 : List (List D)) : X := ⟨mkT 35 [(1, .c (.rp 2 0 11 0 0)), (2, .c (.rp 3 0 11 0 0)), (3, .c (.rp 4 0 11 0 0)), (4, ai i)], [(2, .bx 0 11 ((macL 0 h ss).map C.d)), (3, .bx 0 11 (mac0.map C.d)), (4, .bx 0 11 [.rs 9000 0 3 0 h.w0.length h.w0.length, .rs 9001 0 3 0 h.w1.length h.w1.length, .rs 9002 0 3 0 h.w2.length h.w2.length, .rs 9003 0 3 0 h.w3.length h.w3.length, ci h.c0, ci h.c1, ci h.c2, ci h.c3, ci h.ce, .d nilV, .d (.s 0 4 h.tr [])]), (9000, .sl 0 3 W0), (9001, .sl 0 3 W1), (9002, .sl 0 3 W2), (9003, .sl 0 3 W3)], [], []⟩
abbrev stC0 (h : Mh) (ss : List SesD) (i : Int) : X := Zqc h ss i h.w0 h.w1 h.w2 h.w3
def stC (h : Mh) (ss : List SesD) (i : Int) (n m : Nat) (R : List (List D)) : X := ⟨mkT 35 [(1, .c (.rp 2 0 11 0 0)), (2, .c (.rp 3 0 11 0 0)), (3, .c (.rp 4 0 11 0 0)), (4, ai i)], [(2, .bx 0 11 ((macL 0 h ss).map C.d)), (3, .bx 0 11 (mac0.map C.d)), (4, .bx 0 11 [.rs 9000 0 3 0 h.w0.length h.w0.length, .rs 9001 0 3 0 h.w1.length h.w1.length, .rs 9002 0 3 0 h.w2.length h.w2.length, .rs 9003 0 3 0 h.w3.length h.w3.length, ci h.c0, ci h.c1, ci h.c2, ci h.c3, ci h.ce, .rs 28 0 17 0 n m, .d (.s 0 4 h.tr [])]), (9000, .sl 0 3 h.w0), (9001, .sl 0 3 h.w1), (9002, .sl 0 3 h.w2), (9003, .sl 0 3 h.w3), (28, .sl 0 17 R)], [], []⟩
def wCn : Nat → List C → (C → Prop) → Prop
  | 0, r, K => wC r fun c _ => K c
  | n + 1, r, K => wC r fun _ r => wCn n r K
theorem Zrm : ∀ {n : Nat} {r : List C} {K : C → Prop}, wCn n r K → ∃ c, K c
  | 0, r, K, h => by obtain ⟨c, _, h⟩ := ZsX h; exact ⟨c, h⟩
  | n + 1, r, K, h => by obtain ⟨_, r, h⟩ := ZsX h; exact Zrm h
def ZjM (h : Mh) (ss : List SesD) : Vw := fun y K => wI y 4 fun i => wR y 4 fun r => wCn 9 r fun c => cS c fun n m => wL y 28 fun R => K (stC h ss i n m R)
theorem ZlQ (h : Mh) (ss : List SesD) : VwOK (ZjM h ss) := fun y K q => by
  unfold ZjM at q
  obtain ⟨i, q⟩ := Zcw q
  obtain ⟨r, q⟩ := Zwd q
  obtain ⟨c, q⟩ := Zrm q
  obtain ⟨n, m, q⟩ := ZuX q
  obtain ⟨R, q⟩ := ZpA q
  exact ⟨_, q⟩
theorem rC0 (h : Mh) (ss : List SesD) (N : X → Prop) (E : Exit → X → Prop) : (ZcK Tryz.prog (hkC [(47, Zcv)] [] [] []) Tryz.f19 0 [] [1, 2, 3, 4] [2, 3, 4, 9000, 9001, 9002, 9003, 28] (ZjM h ss) (fun _ => ZjM h ss) N E (stC0 h ss 0)) = (bif decide (0 < @Nat.cast Int _ (List.length (List.map (sesL (0)) ss))) then bif true && decide (0 < @Nat.cast Int _ (List.length (List.map (sesL (0)) ss))) then ∃ s, Zdu (List.map (sesL (0)) ss) (0) (0) s ∧ bif smS s then foAt (0) (0) (1) ∧ whole (List.length s.pg) (s.pg ++ []) ∧ foAt (0) (0) (1) ∧ whole (List.length s.rd) (s.rd ++ []) ∧ foAt (0) (0) (1) ∧ whole (List.length s.wt) (s.wt ++ []) ∧ stC h ss (1) (1) (1) [(sesL (1) { s with pg := (s.pg ++ []), rd := (s.rd ++ []), wt := (s.wt ++ []) })] = stC h ss (1) (1) (1) [(sesL (1) { s with pg := (s.pg ++ []), rd := (s.rd ++ []), wt := (s.wt ++ []) })] ∧ N (stC h ss (1) (1) (1) [(sesL (1) { s with pg := (s.pg ++ []), rd := (s.rd ++ []), wt := (s.wt ++ []) })]) else False else False else False) := by kernel_rfl
theorem rC1 (h : Mh) (ss : List SesD) (i : Int) (n m : Nat) (R : List (List D)) (N : X → Prop) (E : Exit → X → Prop) : (ZcK Tryz.prog (hkC [(47, Zcv)] [] [] []) Tryz.f19 0 [] [1, 2, 3, 4] [2, 3, 4, 9000, 9001, 9002, 9003, 28] (ZjM h ss) (fun _ => ZjM h ss) N E (stC h ss i n m R)) = (bif decide (i < @Nat.cast Int _ (List.length (List.map (sesL (0)) ss))) then bif decide (0 ≤ i) && decide (i < @Nat.cast Int _ (List.length (List.map (sesL (0)) ss))) then ∃ s, Zdu (List.map (sesL (0)) ss) (Int.toNat i) (0) s ∧ bif smS s then n = List.length R ∧ bif decide ((n + 1) * 184 ≤ 140737488355328) && decide (n + 1 ≤ 9223372036854775807) then foAt n n (List.length (R ++ [[]])) ∧ whole (List.length s.pg) (s.pg ++ []) ∧ foAt n n (List.length (R ++ [[]])) ∧ whole (List.length s.rd) (s.rd ++ []) ∧ foAt n n (List.length (R ++ [[]])) ∧ whole (List.length s.wt) (s.wt ++ []) ∧ stC h ss (IntKind.wrap IntKind.i64 (i + 1)) (n + 1) (n + 1) (List.set (R ++ [[]]) n (sesL (1) { s with pg := (s.pg ++ []), rd := (s.rd ++ []), wt := (s.wt ++ []) })) = stC h ss (IntKind.wrap IntKind.i64 (i + 1)) (n + 1) (n + 1) (List.set (R ++ [[]]) n (sesL (1) { s with pg := (s.pg ++ []), rd := (s.rd ++ []), wt := (s.wt ++ []) })) ∧ N (stC h ss (IntKind.wrap IntKind.i64 (i + 1)) (n + 1) (n + 1) (List.set (R ++ [[]]) n (sesL (1) { s with pg := (s.pg ++ []), rd := (s.rd ++ []), wt := (s.wt ++ []) }))) else False else False else False else stC h ss i n m R = stC h ss i n m R ∧ E (Exit.exit (0)) (stC h ss i n m R)) := by kernel_rfl
def stCi (h : Mh) (ss : List SesD) (i : Nat) : X := match i with | 0 => stC0 h ss 0 | k + 1 => stC h ss ((k + 1 : Nat) : Int) (k + 1) (k + 1) ((ss.take (k + 1)).map (sesL 1))
def fC (h : Mh) (ss : List SesD) (n : Nat) (R : List (List D)) : LSum := fun Q x => wL x 9000 fun W0 => wL x 9001 fun W1 => wL x 9002 fun W2 => wL x 9003 fun W3 => W0 = h.w0 ∧ W1 = h.w1 ∧ W2 = h.w2 ∧ W3 = h.w3 ∧ x.arr [1, 2, 3, 4] [2, 3, 4, 9000, 9001, 9002, 9003, 28] = Zqc h ss 0 W0 W1 W2 W3 ∧ Q (.exit 0) (stC h ss (n : Nat) n n R)
theorem eC (h : Mh) (ss : List SesD) (n : Nat) (R : List (List D)) (K : DV → Prop) : (askW Tryz.prog (hkC [(46, ZbP), (47, Zcv)] [] [] [(5, fC h ss n R)]) Tryz.f19 [.agg (macL 0 h ss)] K) = (bif okC4 h.w0 h.w1 h.w2 h.w3 then h.w0 ++ [] = h.w0 ∧ h.w1 ++ [] = h.w1 ∧ h.w2 ++ [] = h.w2 ∧ h.w3 ++ [] = h.w3 ∧ Zqc h ss (0) (h.w0 ++ []) (h.w1 ++ []) (h.w2 ++ []) (h.w3 ++ []) = Zqc h ss (0) (h.w0 ++ []) (h.w1 ++ []) (h.w2 ++ []) (h.w3 ++ []) ∧ bif allV h.tr then bif true && (decide ((0 + List.length h.tr) * 32 ≤ 140737488355328) && decide (0 + List.length h.tr ≤ 9223372036854775807)) then whole (List.length h.w0) h.w0 ∧ whole (List.length h.w1) h.w1 ∧ whole (List.length h.w2) h.w2 ∧ whole (List.length h.w3) h.w3 ∧ whole n R ∧ whole (0 + List.length h.tr) ([] ++ h.tr) ∧ K (DV.agg (Zbu (1) { h with tr := ([] ++ h.tr) } R)) else False else False else False) := by kernel_rfl
theorem Zdz {n : Nat} {R : List (List D)} (h : smR n R = true) : allK R = true := by
  obtain ⟨_, _, h⟩ := Zac h
  exact h
theorem ZcM {i j n : Nat} : foAt i j n ↔ i = j ∧ j < n := by simp [foAt]
theorem kCpM {h : Mh} {ss : List SesD} (h0 : ss ≠ []) (hs : ss.all smS = true) (hb : ss.length * 184 ≤ 140737488351232) (Q : Exit → X → Prop) (x : X) (hq : fC h ss ss.length (ss.map (sesL 1)) Q x) : XWP Tryz.prog (.loop (Zaq Tryz.f19 0)) Q x := by
  unfold fC at hq
  obtain ⟨W0, hq⟩ := ZpA hq
  obtain ⟨W1, hq⟩ := ZpA hq
  obtain ⟨W2, hq⟩ := ZpA hq
  obtain ⟨W3, rfl, rfl, rfl, rfl, hx, hq⟩ := ZpA hq
  have q1 := List.all_eq_true.1 hs
  have hp : 0 < ss.length := List.length_pos_iff.2 h0
  have eN : stCi h ss ss.length = stC h ss ((ss.length : Nat) : Int) ss.length ss.length (ss.map (sesL 1)) := by
    cases hn : ss.length with
    | zero => omega
    | succ k =>
      show stC h ss ((k + 1 : Nat) : Int) (k + 1) (k + 1) (List.map (sesL 1) (List.take (k + 1) ss)) = _
      rw [List.take_of_length_le (by omega)]
  have hH : Zax Tryz.prog (hkC [(47, Zcv)] [] [] []) := ZqZ (.cons Zr2 .nil) .nil .nil
  refine Zcb (sw := []) (V := ZjM h ss) (VE := fun _ => ZjM h ss) mixed (ZlQ h ss) (fun _ => ZlQ h ss) (stCi h ss) (stCi h ss) ss.length (fun _ => false) .ret (.exit 0) (fun i hi => ⟨_, hH, Zai rfl, fun N E _ q2 => ?_⟩) ⟨_, hH, Zai rfl, fun N E q2 => ?_⟩ Q x ⟨hx, fun i hf => by have := hf.2.1; simp at this, fun _ => by rw [eN]; exact hq⟩
  · have q2 := q2 rfl
    have hat : Zdu (List.map (sesL 0) ss) i 0 (sesN ss i) := ZkV hi
    have hsm : smS (sesN ss i) = true := q1 _ (Zc5 hi)
    obtain ⟨m1, m2, m3⟩ := ZaI hsm
    have w1 := ZaW (Zdz m1)
    have w2 := ZaW (Zdz m2)
    have w3 := ZaW (Zdz m3)
    have et : (ss.take (i + 1)).map (sesL 1) = (ss.take i).map (sesL 1) ++ [sesL 1 (sesN ss i)] := by
      rw [List.take_add_one, List.map_append]
      congr 1
      unfold sesN
      rw [List.getD_eq_getElem?_getD, List.getElem?_eq_getElem hi]
      rfl
    cases i with
    | zero =>
      show ZcK Tryz.prog _ _ _ _ _ _ _ _ _ _ (stC0 h ss 0)
      rw [rC0]
      have c0 : decide (0 < @Nat.cast Int _ (List.length (List.map (sesL 0) ss))) = true := by rw [List.length_map]; simp; omega
      simp only [c0, cond_true, Bool.and_self]
      refine ⟨_, hat, ?_⟩
      rw [hsm]
      simp only [cond_true, List.append_nil]
      refine ⟨ZcM.2 ⟨rfl, by decide⟩, w1, ZcM.2 ⟨rfl, by decide⟩, w2, ZcM.2 ⟨rfl, by decide⟩, w3, trivial, ?_⟩
      have q3 : N (stC h ss ((0 + 1 : Nat) : Int) (0 + 1) (0 + 1) ((ss.take (0 + 1)).map (sesL 1))) := q2
      rw [et] at q3
      exact q3
    | succ k =>
      show ZcK Tryz.prog _ _ _ _ _ _ _ _ _ _ (stC h ss ((k + 1 : Nat) : Int) (k + 1) (k + 1) ((ss.take (k + 1)).map (sesL 1)))
      rw [rC1]
      have wi : IntKind.wrap IntKind.i64 (((k + 1 : Nat) : Int) + 1) = ((k + 1 + 1 : Nat) : Int) := Zam (n := 1) (by omega)
      have c0 : decide (((k + 1 : Nat) : Int) < @Nat.cast Int _ (List.length (List.map (sesL 0) ss))) = true := by rw [List.length_map]; simp; omega
      have c1 : decide (0 ≤ ((k + 1 : Nat) : Int)) = true := by simp; omega
      have el : (List.map (sesL 1) (List.take (k + 1) ss)).length = k + 1 := by rw [List.length_map, List.length_take]; omega
      have c2 : (decide ((k + 1 + 1) * 184 ≤ 140737488355328) && decide (k + 1 + 1 ≤ 9223372036854775807)) = true := by simp; omega
      simp only [c0, c1, cond_true, Bool.and_self]
      refine ⟨_, hat, ?_⟩
      rw [hsm]
      simp only [cond_true, List.append_nil]
      refine ⟨el.symm, ?_⟩
      rw [c2]
      have hl : k + 1 < (List.map (sesL 1) (List.take (k + 1) ss) ++ [[]]).length := by rw [List.length_append, el]; simp
      refine ⟨ZcM.2 ⟨rfl, hl⟩, w1, ZcM.2 ⟨rfl, hl⟩, w2, ZcM.2 ⟨rfl, hl⟩, w3, trivial, ?_⟩
      have es : List.set (List.map (sesL 1) (List.take (k + 1) ss) ++ [[]]) (k + 1) (sesL 1 (sesN ss (k + 1))) = (ss.take (k + 1 + 1)).map (sesL 1) := by
        rw [et, List.set_append_right _ _ (by omega), el, Nat.sub_self]; rfl
      show N (stC h ss (IntKind.wrap IntKind.i64 (((k + 1 : Nat) : Int) + 1)) (k + 1 + 1) (k + 1 + 1) (List.set (List.map (sesL 1) (List.take (k + 1) ss) ++ [[]]) (k + 1) (sesL 1 (sesN ss (k + 1)))))
      rw [wi, es]
      exact q2
  · rw [eN] at q2 ⊢
    rw [rC1]
    have c0 : decide (((ss.length : Nat) : Int) < @Nat.cast Int _ (List.length (List.map (sesL 0) ss))) = false := by rw [List.length_map]; simp
    simp only [c0, cond_false, true_and]
    exact q2
theorem Ztb (h : Mh) (ss : List SesD) (hm : smM h ss = true) (hb : ss.length * 184 ≤ 140737488351232) : CT Tryz.prog 19 [.agg (macL 0 h ss)] (.agg (macL 1 h ss)) := by
  cases h0 : ss with
  | nil =>
    subst h0
    have h4 := Zms hm
    obtain ⟨⟨a0, a1, a2, a3⟩, a4, a5⟩ := ZdG hm
    obtain ⟨_, _, b0⟩ := Zac a0
    obtain ⟨_, _, b1⟩ := Zac a1
    obtain ⟨_, _, b2⟩ := Zac a2
    obtain ⟨_, _, b3⟩ := Zac a3
    obtain ⟨t1, t2, t3, t4⟩ := ZiY a4
    refine ZsI (.cons Zrn (.cons Zr2 .nil)) .nil .nil mixed Tryz.func19 rfl rfl rfl ?_
    rw [ZtQ]
    refine ⟨?_⟩
    simp only [kX, tC, tD]
    simp only [h4, b0, b1, b2, b3, t1, t2, t3, t4, Nat.zero_add, List.nil_append, List.append_nil, Nat.le_refl, decide_true, Bool.and_self, Bool.true_and, cond_true, ZbJ, Nat.add_zero, Nat.sub_self, List.take_zero]
    exact .aggO (.cons (.refl _) (.cons (.refl _) (.cons (.refl _) (.cons (.refl _) (.cons (.refl _) (.cons (.refl _) (.cons (.refl _) (.cons (.refl _) (.cons (.refl _) (.cons (.nil 17) (.cons (.refl _) .nil)))))))))))
  | cons s l =>
    rw [← h0]
    have hne : ss ≠ [] := by rw [h0]; exact fun e => by cases e
    have h4 := Zms hm
    obtain ⟨⟨a0, a1, a2, a3⟩, a4, a5⟩ := ZdG hm
    have hs : ss.all smS = true := List.all_eq_true.2 a5
    obtain ⟨t1, t2, t3, t4⟩ := ZiY a4
    refine Zv9 (.cons Zrn (.cons Zr2 .nil)) .nil .nil mixed (m := [(5, fC h ss ss.length (ss.map (sesL 1)))]) (ZoI (i := 0) (fun j hj _ => by have : j < 1 := hj; omega) (kCpM hne hs hb)) Tryz.func19 rfl rfl rfl ?_
    rw [eC]
    refine ⟨?_⟩
    simp only [h4, t1, t2, t3, t4, List.append_nil, Nat.zero_add, List.nil_append, Nat.le_refl, decide_true, Bool.and_self, Bool.true_and, cond_true, true_and, Nat.add_zero]
    exact ⟨ZaW (Zdz a0), ZaW (Zdz a1), ZaW (Zdz a2), ZaW (Zdz a3), by have := ZaW (Zmi ss); rwa [List.length_map] at this, ZaW (Zdz a4), AL.refl _⟩
def sesO (s : SesD) (p r w : List (List D)) : List D := [vN s.id, vN s.lb, vN s.cl, .s 1 4 s.pg p, vN s.st, vN s.pc, vN s.r0, vN s.r1, vN s.r2, vN s.r3, .s 1 3 s.rd r, .s 1 3 s.wt w, vN s.at', vN s.sp, vN s.tr, vN s.rs, vN s.to]
def spS (p p' r r' w w' : List (List D)) : Prop := okZ 4 (p ++ p') = true ∧ okZ 3 (r ++ r') = true ∧ okZ 3 (w ++ w') = true
def Zf4 : Spec := fun ds Q => match ds with
  | [.agg [.v (.int .i64 _), .v (.int .i64 _), .v (.int .i64 _), .s 1 4 p p', .v (.int .i64 _), .v (.int .i64 _), .v (.int .i64 _), .v (.int .i64 _), .v (.int .i64 _), .v (.int .i64 _), .s 1 3 r r', .s 1 3 w w', .v (.int .i64 _), .v (.int .i64 _), .v (.int .i64 _), .v (.int .i64 _), .v (.int .i64 _)]] => spS p p' r r' w w' ∧ Q (.tup [])
  | _ => False
theorem eSpS (s : SesD) (p r w : List (List D)) (K : DV → Prop) : (askH Tryz.prog (hkG [(125, ZdS), (126, ZdY), (127, Zdw)] [] fun _ => true) Tryz.f73 [.agg (sesO s p r w)] K) = (bif decide (List.length s.pg ≤ List.length (s.pg ++ p)) && List.all (s.pg ++ p) fun r => List.all r D.keeps then bif allV (s.pg ++ p) then bif okZ (4) (List.take (List.length s.pg) (s.pg ++ p) ++ List.take (List.length s.pg + List.length p - List.length s.pg) (List.drop (List.length s.pg) (s.pg ++ p))) then bif decide (List.length s.rd ≤ List.length (s.rd ++ r)) && List.all (s.rd ++ r) fun r => List.all r D.keeps then bif allV (s.rd ++ r) then bif okZ (3) (List.take (List.length s.rd) (s.rd ++ r) ++ List.take (List.length s.rd + List.length r - List.length s.rd) (List.drop (List.length s.rd) (s.rd ++ r))) then bif decide (List.length s.wt ≤ List.length (s.wt ++ w)) && List.all (s.wt ++ w) fun r => List.all r D.keeps then bif allV (s.wt ++ w) then bif okZ (3) (List.take (List.length s.wt) (s.wt ++ w) ++ List.take (List.length s.wt + List.length w - List.length s.wt) (List.drop (List.length s.wt) (s.wt ++ w))) then K (DV.tup []) else False else False else False else False else False else False else False else False else False) := by kernel_rfl
theorem ZvN (h : Mh) (K : DV → Prop) : (askB Tryz.prog (hkG [(72, ZdU), (73, Zf4), (74, Zbl)] [] fun _ => true) Tryz.f28 [.agg (macL 1 h [])] K) = (bif kX h.w0 then bif kX h.w1 then bif kX h.w2 then bif kX h.w3 then bif aX h.w0 then bif aX h.w1 then bif aX h.w2 then bif aX h.w3 then bif okZ (3) (tC h.w0 ++ tD h.w0) && (okZ (3) (tC h.w1 ++ tD h.w1) && (okZ (3) (tC h.w2 ++ tD h.w2) && okZ (3) (tC h.w3 ++ tD h.w3))) then bif kX h.tr then bif aX h.tr then bif okZ (4) (tC h.tr ++ tD h.tr) then K (DV.tup []) else False else False else False else False else False else False else False else False else False else False else False else False) := by kernel_rfl
theorem ZvW (h : Mh) (s0 : SesD) (K : DV → Prop) : (askB Tryz.prog (hkG [(72, ZdU), (73, Zf4), (74, Zbl)] [] fun _ => true) Tryz.f28 [.agg (macL 1 h [s0])] K) = (bif kX h.w0 then bif kX h.w1 then bif kX h.w2 then bif kX h.w3 then bif aX h.w0 then bif aX h.w1 then bif aX h.w2 then bif aX h.w3 then bif okZ (3) (tC h.w0 ++ tD h.w0) && (okZ (3) (tC h.w1 ++ tD h.w1) && (okZ (3) (tC h.w2 ++ tD h.w2) && okZ (3) (tC h.w3 ++ tD h.w3))) then bif kX s0.pg then bif kX s0.rd then bif kX s0.wt then bif aX s0.pg then bif aX s0.rd then bif aX s0.wt then spS (tC s0.pg) (tD s0.pg) (tC s0.rd) (tD s0.rd) (tC s0.wt) (tD s0.wt) ∧ bif kX h.tr then bif aX h.tr then bif okZ (4) (tC h.tr ++ tD h.tr) then K (DV.tup []) else False else False else False else False else False else False else False else False else False else False else False else False else False else False else False else False else False else False) := by kernel_rfl
theorem Zu8 (h : Mh) (s0 s1 : SesD) (K : DV → Prop) : (askB Tryz.prog (hkG [(72, ZdU), (73, Zf4), (74, Zbl)] [] fun _ => true) Tryz.f28 [.agg (macL 1 h [s0, s1])] K) = (bif kX h.w0 then bif kX h.w1 then bif kX h.w2 then bif kX h.w3 then bif aX h.w0 then bif aX h.w1 then bif aX h.w2 then bif aX h.w3 then bif okZ (3) (tC h.w0 ++ tD h.w0) && (okZ (3) (tC h.w1 ++ tD h.w1) && (okZ (3) (tC h.w2 ++ tD h.w2) && okZ (3) (tC h.w3 ++ tD h.w3))) then bif kX s0.pg then bif kX s0.rd then bif kX s0.wt then bif aX s0.pg then bif aX s0.rd then bif aX s0.wt then spS (tC s0.pg) (tD s0.pg) (tC s0.rd) (tD s0.rd) (tC s0.wt) (tD s0.wt) ∧ bif kX s1.pg then bif kX s1.rd then bif kX s1.wt then bif aX s1.pg then bif aX s1.rd then bif aX s1.wt then spS (tC s1.pg) (tD s1.pg) (tC s1.rd) (tD s1.rd) (tC s1.wt) (tD s1.wt) ∧ bif kX h.tr then bif aX h.tr then bif okZ (4) (tC h.tr ++ tD h.tr) then K (DV.tup []) else False else False else False else False else False else False else False else False else False else False else False else False else False else False else False else False else False else False else False else False else False else False else False else False) := by kernel_rfl
theorem Zvh (h : Mh) (s0 s1 s2 : SesD) (K : DV → Prop) : (askB Tryz.prog (hkG [(72, ZdU), (73, Zf4), (74, Zbl)] [] fun _ => true) Tryz.f28 [.agg (macL 1 h [s0, s1, s2])] K) = (bif kX h.w0 then bif kX h.w1 then bif kX h.w2 then bif kX h.w3 then bif aX h.w0 then bif aX h.w1 then bif aX h.w2 then bif aX h.w3 then bif okZ (3) (tC h.w0 ++ tD h.w0) && (okZ (3) (tC h.w1 ++ tD h.w1) && (okZ (3) (tC h.w2 ++ tD h.w2) && okZ (3) (tC h.w3 ++ tD h.w3))) then bif kX s0.pg then bif kX s0.rd then bif kX s0.wt then bif aX s0.pg then bif aX s0.rd then bif aX s0.wt then spS (tC s0.pg) (tD s0.pg) (tC s0.rd) (tD s0.rd) (tC s0.wt) (tD s0.wt) ∧ bif kX s1.pg then bif kX s1.rd then bif kX s1.wt then bif aX s1.pg then bif aX s1.rd then bif aX s1.wt then spS (tC s1.pg) (tD s1.pg) (tC s1.rd) (tD s1.rd) (tC s1.wt) (tD s1.wt) ∧ bif kX s2.pg then bif kX s2.rd then bif kX s2.wt then bif aX s2.pg then bif aX s2.rd then bif aX s2.wt then spS (tC s2.pg) (tD s2.pg) (tC s2.rd) (tD s2.rd) (tC s2.wt) (tD s2.wt) ∧ bif kX h.tr then bif aX h.tr then bif okZ (4) (tC h.tr ++ tD h.tr) then K (DV.tup []) else False else False else False else False else False else False else False else False else False else False else False else False else False else False else False else False else False else False else False else False else False else False else False else False else False else False else False else False else False else False) := by kernel_rfl
theorem Zvw (h : Mh) (s0 s1 s2 s3 : SesD) (K : DV → Prop) : (askB Tryz.prog (hkG [(72, ZdU), (73, Zf4), (74, Zbl)] [] fun _ => true) Tryz.f28 [.agg (macL 1 h [s0, s1, s2, s3])] K) = (bif kX h.w0 then bif kX h.w1 then bif kX h.w2 then bif kX h.w3 then bif aX h.w0 then bif aX h.w1 then bif aX h.w2 then bif aX h.w3 then bif okZ (3) (tC h.w0 ++ tD h.w0) && (okZ (3) (tC h.w1 ++ tD h.w1) && (okZ (3) (tC h.w2 ++ tD h.w2) && okZ (3) (tC h.w3 ++ tD h.w3))) then bif kX s0.pg then bif kX s0.rd then bif kX s0.wt then bif aX s0.pg then bif aX s0.rd then bif aX s0.wt then spS (tC s0.pg) (tD s0.pg) (tC s0.rd) (tD s0.rd) (tC s0.wt) (tD s0.wt) ∧ bif kX s1.pg then bif kX s1.rd then bif kX s1.wt then bif aX s1.pg then bif aX s1.rd then bif aX s1.wt then spS (tC s1.pg) (tD s1.pg) (tC s1.rd) (tD s1.rd) (tC s1.wt) (tD s1.wt) ∧ bif kX s2.pg then bif kX s2.rd then bif kX s2.wt then bif aX s2.pg then bif aX s2.rd then bif aX s2.wt then spS (tC s2.pg) (tD s2.pg) (tC s2.rd) (tD s2.rd) (tC s2.wt) (tD s2.wt) ∧ bif kX s3.pg then bif kX s3.rd then bif kX s3.wt then bif aX s3.pg then bif aX s3.rd then bif aX s3.wt then spS (tC s3.pg) (tD s3.pg) (tC s3.rd) (tD s3.rd) (tC s3.wt) (tD s3.wt) ∧ bif kX h.tr then bif aX h.tr then bif okZ (4) (tC h.tr ++ tD h.tr) then K (DV.tup []) else False else False else False else False else False else False else False else False else False else False else False else False else False else False else False else False else False else False else False else False else False else False else False else False else False else False else False else False else False else False else False else False else False else False else False else False) := by kernel_rfl
theorem tkd (R p : List (List D)) : List.take R.length (R ++ p) ++ List.take (R.length + p.length - R.length) (List.drop R.length (R ++ p)) = R ++ p := by simp
theorem gSpS : Goes Tryz.prog 73 := Zao Tryz.func73 (by kernel_rfl) rfl
theorem cSpS (s : SesD) (p r w : List (List D)) (hp : spS s.pg p s.rd r s.wt w) : CT Tryz.prog 73 [.agg (sesO s p r w)] (.tup []) := by
  obtain ⟨h1, h2, h3⟩ := hp
  refine Zry (Zn3 (g := fun _ => true) (.cons ZkF (.cons Zkz (.cons Zi6 .nil))) .nil) mixed Zbq Tryz.func73 rfl rfl (by simp [DV.fit32, DV.width, sesO]) ?_
  rw [eSpS]
  refine ⟨?_⟩
  have le : ∀ R p : List (List D), decide (R.length ≤ (R ++ p).length) = true := fun R p => by simp
  simp only [tkd, le, h1, h2, h3, Zaa h1, Zaa h2, Zaa h3, Zaw (Zaa h1), Zaw (Zaa h2), Zaw (Zaa h3), Bool.and_self, cond_true]
  exact AL.refl _
theorem oSpS : Zad Tryz.prog 73 Zf4 := fun ds Q q => by
  unfold Zf4 at q; split at q
  · rename_i a0 a1 a2 p p' a4 a5 b0 b1 b2 b3 r r' w w' c0 c1 c2 c3 c4
    exact ⟨gSpS, _, cSpS ⟨a0, a1, a2, p, a4, a5, b0, b1, b2, b3, r, w, c0, c1, c2, c3, c4⟩ p' r' w' q.1, .inl rfl, rfl, q.2⟩
  · exact q.elim
theorem cSpM (h : Mh) (ss : List SesD) (hok : okM h ss = true) (hl : ss.length ≤ 4) : CT Tryz.prog 28 [.agg (macL 1 h ss)] (.tup []) := by
  obtain ⟨g1, g2, g3⟩ := ZbH hok
  obtain ⟨w0, w1, w2, w3⟩ := ZbV g1
  have q := List.all_eq_true.1 g3
  have hH := Zn3 (g := fun _ => true) (.cons ZsO (.cons oSpS (.cons Zkf .nil))) .nil
  rcases ss with _ | ⟨s0, _ | ⟨s1, _ | ⟨s2, _ | ⟨s3, _ | ⟨s4, l⟩⟩⟩⟩⟩
  · refine Zoc hH mixed Zbq Tryz.func28 rfl rfl ?_
    rw [ZvN]
    refine ⟨?_⟩
    simp only [tC_e, tD_e, List.append_nil, w0, kX_t (Zaa w0), aX_t (Zaa w0), w1, kX_t (Zaa w1), aX_t (Zaa w1), w2, kX_t (Zaa w2), aX_t (Zaa w2), w3, kX_t (Zaa w3), aX_t (Zaa w3), g2, kX_t (Zaa g2), aX_t (Zaa g2), Bool.and_self, cond_true]
    exact AL.refl _
  · have k0 := q s0 (by simp)
    obtain ⟨p0, r0, u0⟩ := ZaX k0
    refine Zoc hH mixed Zbq Tryz.func28 rfl rfl ?_
    rw [ZvW]
    refine ⟨?_⟩
    simp only [tC_e, tD_e, List.append_nil, w0, kX_t (Zaa w0), aX_t (Zaa w0), w1, kX_t (Zaa w1), aX_t (Zaa w1), w2, kX_t (Zaa w2), aX_t (Zaa w2), w3, kX_t (Zaa w3), aX_t (Zaa w3), g2, kX_t (Zaa g2), aX_t (Zaa g2), p0, kX_t (Zaa p0), aX_t (Zaa p0), r0, kX_t (Zaa r0), aX_t (Zaa r0), u0, kX_t (Zaa u0), aX_t (Zaa u0), Bool.and_self, cond_true, spS, and_self, true_and]
    exact AL.refl _
  · have k0 := q s0 (by simp)
    obtain ⟨p0, r0, u0⟩ := ZaX k0
    have k1 := q s1 (by simp)
    obtain ⟨p1, r1, u1⟩ := ZaX k1
    refine Zoc hH mixed Zbq Tryz.func28 rfl rfl ?_
    rw [Zu8]
    refine ⟨?_⟩
    simp only [tC_e, tD_e, List.append_nil, w0, kX_t (Zaa w0), aX_t (Zaa w0), w1, kX_t (Zaa w1), aX_t (Zaa w1), w2, kX_t (Zaa w2), aX_t (Zaa w2), w3, kX_t (Zaa w3), aX_t (Zaa w3), g2, kX_t (Zaa g2), aX_t (Zaa g2), p0, kX_t (Zaa p0), aX_t (Zaa p0), r0, kX_t (Zaa r0), aX_t (Zaa r0), u0, kX_t (Zaa u0), aX_t (Zaa u0), p1, kX_t (Zaa p1), aX_t (Zaa p1), r1, kX_t (Zaa r1), aX_t (Zaa r1), u1, kX_t (Zaa u1), aX_t (Zaa u1), Bool.and_self, cond_true, spS, and_self, true_and]
    exact AL.refl _
  · have k0 := q s0 (by simp)
    obtain ⟨p0, r0, u0⟩ := ZaX k0
    have k1 := q s1 (by simp)
    obtain ⟨p1, r1, u1⟩ := ZaX k1
    have k2 := q s2 (by simp)
    obtain ⟨p2, r2, u2⟩ := ZaX k2
    refine Zoc hH mixed Zbq Tryz.func28 rfl rfl ?_
    rw [Zvh]
    refine ⟨?_⟩
    simp only [tC_e, tD_e, List.append_nil, w0, kX_t (Zaa w0), aX_t (Zaa w0), w1, kX_t (Zaa w1), aX_t (Zaa w1), w2, kX_t (Zaa w2), aX_t (Zaa w2), w3, kX_t (Zaa w3), aX_t (Zaa w3), g2, kX_t (Zaa g2), aX_t (Zaa g2), p0, kX_t (Zaa p0), aX_t (Zaa p0), r0, kX_t (Zaa r0), aX_t (Zaa r0), u0, kX_t (Zaa u0), aX_t (Zaa u0), p1, kX_t (Zaa p1), aX_t (Zaa p1), r1, kX_t (Zaa r1), aX_t (Zaa r1), u1, kX_t (Zaa u1), aX_t (Zaa u1), p2, kX_t (Zaa p2), aX_t (Zaa p2), r2, kX_t (Zaa r2), aX_t (Zaa r2), u2, kX_t (Zaa u2), aX_t (Zaa u2), Bool.and_self, cond_true, spS, and_self, true_and]
    exact AL.refl _
  · have k0 := q s0 (by simp)
    obtain ⟨p0, r0, u0⟩ := ZaX k0
    have k1 := q s1 (by simp)
    obtain ⟨p1, r1, u1⟩ := ZaX k1
    have k2 := q s2 (by simp)
    obtain ⟨p2, r2, u2⟩ := ZaX k2
    have k3 := q s3 (by simp)
    obtain ⟨p3, r3, u3⟩ := ZaX k3
    refine Zoc hH mixed Zbq Tryz.func28 rfl rfl ?_
    rw [Zvw]
    refine ⟨?_⟩
    simp only [tC_e, tD_e, List.append_nil, w0, kX_t (Zaa w0), aX_t (Zaa w0), w1, kX_t (Zaa w1), aX_t (Zaa w1), w2, kX_t (Zaa w2), aX_t (Zaa w2), w3, kX_t (Zaa w3), aX_t (Zaa w3), g2, kX_t (Zaa g2), aX_t (Zaa g2), p0, kX_t (Zaa p0), aX_t (Zaa p0), r0, kX_t (Zaa r0), aX_t (Zaa r0), u0, kX_t (Zaa u0), aX_t (Zaa u0), p1, kX_t (Zaa p1), aX_t (Zaa p1), r1, kX_t (Zaa r1), aX_t (Zaa r1), u1, kX_t (Zaa u1), aX_t (Zaa u1), p2, kX_t (Zaa p2), aX_t (Zaa p2), r2, kX_t (Zaa r2), aX_t (Zaa r2), u2, kX_t (Zaa u2), aX_t (Zaa u2), p3, kX_t (Zaa p3), aX_t (Zaa p3), r3, kX_t (Zaa r3), aX_t (Zaa r3), u3, kX_t (Zaa u3), aX_t (Zaa u3), Bool.and_self, cond_true, spS, and_self, true_and]
    exact AL.refl _
  · simp at hl
end

section
open Go Go.Proofs
def sQt (s : SesD) : List D := [vN s.id, vN s.lb, vN s.cl, .s 0 4 (cC s.pg) (cD s.pg), vN s.st, vN s.pc, vN s.r0, vN s.r1, vN s.r2, vN s.r3, .s 0 3 (cC s.rd) (cD s.rd), .s 0 3 (cC s.wt) (cD s.wt), vN s.at', vN s.sp, vN s.tr, vN s.rs, vN s.to]
theorem ZnH (s : SesD) : sQt s = sesL 0 s := by simp only [sQt, cC_e, cD_e]; rfl
theorem Zog (s : SesD) : sTt s = sesL 1 s := by simp only [sTt, tC_e, tD_e]; rfl
def Zdd (ds : List DV) : Prop := ∃ h ss, okM h ss = true ∧ ss.length ≤ 9223372036854775806 ∧ All2 AL ds [.agg (macL 0 h ss), .agg (macL 0 h ss)]
def Znm : Spec := fun ds Q => Zdd ds ∧ Q (B true)
def spM (ds : List DV) : Prop := ∃ h ss, ss.length ≤ 4 ∧ okM h ss = true ∧ ds = [.agg (macL 1 h ss)]
def sSpM : Spec := fun ds Q => spM ds ∧ Q (.tup [])
theorem eCl0 (h h1 : Mh) (ss : List SesD) (i e : Int) (K : DV → Prop) : (askW Tryz.prog (hkG [(19, sAtD [.agg (macL 0 h ss)] (.agg (macL 0 h ss))), (34, sAtD [.agg (macL 0 h ss), I i] (.tup [.agg (macL 0 h1 []), I e])), (24, Znm), (25, sI), (35, sAtD [] (B true)), (28, sSpM)] [(33, ZeO Tryz.prog [34] (sAtD [.agg (macL 0 h ss), I i] (.tup [.agg (macL 1 h1 []), I e])))] fun f => Nat.beq f 28) Tryz.f9 [.agg (macL 0 h ss), I i] K) = ([DV.agg (macL (0) h ss)] = [DV.agg (macL (0) h ss)] ∧ [DV.agg (macL (0) h ss), I i] = [DV.agg (macL (0) h ss), I i] ∧ [DV.agg (macL (0) h ss), I i] = [DV.agg (macL (0) h ss), I i] ∧ bif lX h1.w0 then bif lX h1.w1 then bif lX h1.w2 then bif lX h1.w3 then bif lX h1.tr then Zdd [DV.agg [D.s (0) (3) (cC h1.w0) (cD h1.w0), D.s (0) (3) (cC h1.w1) (cD h1.w1), D.s (0) (3) (cC h1.w2) (cD h1.w2), D.s (0) (3) (cC h1.w3) (cD h1.w3), vN h1.c0, vN h1.c1, vN h1.c2, vN h1.c3, vN h1.ce, D.s (0) (17) [] [], D.s (0) (4) (cC h1.tr) (cD h1.tr)], DV.agg (Zbu (0) h1 [])] ∧ bif e != e then K (B false) else bif kX h1.w0 then bif kX h1.w1 then bif kX h1.w2 then bif kX h1.w3 then bif kX h1.tr then bif aX h1.w0 then bif aX h1.w1 then bif aX h1.w2 then bif aX h1.w3 then bif aX h1.tr then spM [DV.agg [D.s (1) (3) (tC h1.w0) (tD h1.w0), D.s (1) (3) (tC h1.w1) (tD h1.w1), D.s (1) (3) (tC h1.w2) (tD h1.w2), D.s (1) (3) (tC h1.w3) (tD h1.w3), vN h1.c0, vN h1.c1, vN h1.c2, vN h1.c3, vN h1.ce, D.s (1) (17) [] [], D.s (1) (4) (tC h1.tr) (tD h1.tr)]] ∧ Zdd [DV.agg (macL (0) h ss), DV.agg (macL (0) h ss)] ∧ ([] : List DV) = [] ∧ K (B true) else False else False else False else False else False else False else False else False else False else False else False else False else False else False else False) := by kernel_rfl
theorem eCl1 (h h1 : Mh) (ss : List SesD) (t0 : SesD) (i e : Int) (K : DV → Prop) : (askW Tryz.prog (hkG [(19, sAtD [.agg (macL 0 h ss)] (.agg (macL 0 h ss))), (34, sAtD [.agg (macL 0 h ss), I i] (.tup [.agg (macL 0 h1 [t0]), I e])), (24, Znm), (25, sI), (35, sAtD [] (B true)), (28, sSpM)] [(33, ZeO Tryz.prog [34] (sAtD [.agg (macL 0 h ss), I i] (.tup [.agg (macL 1 h1 [t0]), I e])))] fun f => Nat.beq f 28) Tryz.f9 [.agg (macL 0 h ss), I i] K) = ([DV.agg (macL (0) h ss)] = [DV.agg (macL (0) h ss)] ∧ [DV.agg (macL (0) h ss), I i] = [DV.agg (macL (0) h ss), I i] ∧ [DV.agg (macL (0) h ss), I i] = [DV.agg (macL (0) h ss), I i] ∧ bif lX h1.w0 then bif lX h1.w1 then bif lX h1.w2 then bif lX h1.w3 then bif lX t0.pg then bif lX t0.rd then bif lX t0.wt then bif lX h1.tr then Zdd [DV.agg [D.s (0) (3) (cC h1.w0) (cD h1.w0), D.s (0) (3) (cC h1.w1) (cD h1.w1), D.s (0) (3) (cC h1.w2) (cD h1.w2), D.s (0) (3) (cC h1.w3) (cD h1.w3), vN h1.c0, vN h1.c1, vN h1.c2, vN h1.c3, vN h1.ce, D.s (0) (17) [(sQt t0)] [], D.s (0) (4) (cC h1.tr) (cD h1.tr)], DV.agg (Zbu (0) h1 [(sesL (0) t0)])] ∧ bif e != e then K (B false) else bif kX h1.w0 then bif kX h1.w1 then bif kX h1.w2 then bif kX h1.w3 then bif kX t0.pg then bif kX t0.rd then bif kX t0.wt then bif kX h1.tr then bif aX h1.w0 then bif aX h1.w1 then bif aX h1.w2 then bif aX h1.w3 then bif aX t0.pg then bif aX t0.rd then bif aX t0.wt then bif aX h1.tr then spM [DV.agg [D.s (1) (3) (tC h1.w0) (tD h1.w0), D.s (1) (3) (tC h1.w1) (tD h1.w1), D.s (1) (3) (tC h1.w2) (tD h1.w2), D.s (1) (3) (tC h1.w3) (tD h1.w3), vN h1.c0, vN h1.c1, vN h1.c2, vN h1.c3, vN h1.ce, D.s (1) (17) [(sTt t0)] [], D.s (1) (4) (tC h1.tr) (tD h1.tr)]] ∧ Zdd [DV.agg (macL (0) h ss), DV.agg (macL (0) h ss)] ∧ ([] : List DV) = [] ∧ K (B true) else False else False else False else False else False else False else False else False else False else False else False else False else False else False else False else False else False else False else False else False else False else False else False else False) := by kernel_rfl
theorem eCl2 (h h1 : Mh) (ss : List SesD) (t0 t1 : SesD) (i e : Int) (K : DV → Prop) : (askW Tryz.prog (hkG [(19, sAtD [.agg (macL 0 h ss)] (.agg (macL 0 h ss))), (34, sAtD [.agg (macL 0 h ss), I i] (.tup [.agg (macL 0 h1 [t0, t1]), I e])), (24, Znm), (25, sI), (35, sAtD [] (B true)), (28, sSpM)] [(33, ZeO Tryz.prog [34] (sAtD [.agg (macL 0 h ss), I i] (.tup [.agg (macL 1 h1 [t0, t1]), I e])))] fun f => Nat.beq f 28) Tryz.f9 [.agg (macL 0 h ss), I i] K) = ([DV.agg (macL (0) h ss)] = [DV.agg (macL (0) h ss)] ∧ [DV.agg (macL (0) h ss), I i] = [DV.agg (macL (0) h ss), I i] ∧ [DV.agg (macL (0) h ss), I i] = [DV.agg (macL (0) h ss), I i] ∧ bif lX h1.w0 then bif lX h1.w1 then bif lX h1.w2 then bif lX h1.w3 then bif lX t0.pg then bif lX t0.rd then bif lX t0.wt then bif lX t1.pg then bif lX t1.rd then bif lX t1.wt then bif lX h1.tr then Zdd [DV.agg [D.s (0) (3) (cC h1.w0) (cD h1.w0), D.s (0) (3) (cC h1.w1) (cD h1.w1), D.s (0) (3) (cC h1.w2) (cD h1.w2), D.s (0) (3) (cC h1.w3) (cD h1.w3), vN h1.c0, vN h1.c1, vN h1.c2, vN h1.c3, vN h1.ce, D.s (0) (17) [(sQt t0), (sQt t1)] [], D.s (0) (4) (cC h1.tr) (cD h1.tr)], DV.agg (Zbu (0) h1 [(sesL (0) t0), (sesL (0) t1)])] ∧ bif e != e then K (B false) else bif kX h1.w0 then bif kX h1.w1 then bif kX h1.w2 then bif kX h1.w3 then bif kX t0.pg then bif kX t0.rd then bif kX t0.wt then bif kX t1.pg then bif kX t1.rd then bif kX t1.wt then bif kX h1.tr then bif aX h1.w0 then bif aX h1.w1 then bif aX h1.w2 then bif aX h1.w3 then bif aX t0.pg then bif aX t0.rd then bif aX t0.wt then bif aX t1.pg then bif aX t1.rd then bif aX t1.wt then bif aX h1.tr then spM [DV.agg [D.s (1) (3) (tC h1.w0) (tD h1.w0), D.s (1) (3) (tC h1.w1) (tD h1.w1), D.s (1) (3) (tC h1.w2) (tD h1.w2), D.s (1) (3) (tC h1.w3) (tD h1.w3), vN h1.c0, vN h1.c1, vN h1.c2, vN h1.c3, vN h1.ce, D.s (1) (17) [(sTt t0), (sTt t1)] [], D.s (1) (4) (tC h1.tr) (tD h1.tr)]] ∧ Zdd [DV.agg (macL (0) h ss), DV.agg (macL (0) h ss)] ∧ ([] : List DV) = [] ∧ K (B true) else False else False else False else False else False else False else False else False else False else False else False else False else False else False else False else False else False else False else False else False else False else False else False else False else False else False else False else False else False else False else False else False else False) := by kernel_rfl
theorem eCl3 (h h1 : Mh) (ss : List SesD) (t0 t1 t2 : SesD) (i e : Int) (K : DV → Prop) : (askW Tryz.prog (hkG [(19, sAtD [.agg (macL 0 h ss)] (.agg (macL 0 h ss))), (34, sAtD [.agg (macL 0 h ss), I i] (.tup [.agg (macL 0 h1 [t0, t1, t2]), I e])), (24, Znm), (25, sI), (35, sAtD [] (B true)), (28, sSpM)] [(33, ZeO Tryz.prog [34] (sAtD [.agg (macL 0 h ss), I i] (.tup [.agg (macL 1 h1 [t0, t1, t2]), I e])))] fun f => Nat.beq f 28) Tryz.f9 [.agg (macL 0 h ss), I i] K) = ([DV.agg (macL (0) h ss)] = [DV.agg (macL (0) h ss)] ∧ [DV.agg (macL (0) h ss), I i] = [DV.agg (macL (0) h ss), I i] ∧ [DV.agg (macL (0) h ss), I i] = [DV.agg (macL (0) h ss), I i] ∧ bif lX h1.w0 then bif lX h1.w1 then bif lX h1.w2 then bif lX h1.w3 then bif lX t0.pg then bif lX t0.rd then bif lX t0.wt then bif lX t1.pg then bif lX t1.rd then bif lX t1.wt then bif lX t2.pg then bif lX t2.rd then bif lX t2.wt then bif lX h1.tr then Zdd [DV.agg [D.s (0) (3) (cC h1.w0) (cD h1.w0), D.s (0) (3) (cC h1.w1) (cD h1.w1), D.s (0) (3) (cC h1.w2) (cD h1.w2), D.s (0) (3) (cC h1.w3) (cD h1.w3), vN h1.c0, vN h1.c1, vN h1.c2, vN h1.c3, vN h1.ce, D.s (0) (17) [(sQt t0), (sQt t1), (sQt t2)] [], D.s (0) (4) (cC h1.tr) (cD h1.tr)], DV.agg (Zbu (0) h1 [(sesL (0) t0), (sesL (0) t1), (sesL (0) t2)])] ∧ bif e != e then K (B false) else bif kX h1.w0 then bif kX h1.w1 then bif kX h1.w2 then bif kX h1.w3 then bif kX t0.pg then bif kX t0.rd then bif kX t0.wt then bif kX t1.pg then bif kX t1.rd then bif kX t1.wt then bif kX t2.pg then bif kX t2.rd then bif kX t2.wt then bif kX h1.tr then bif aX h1.w0 then bif aX h1.w1 then bif aX h1.w2 then bif aX h1.w3 then bif aX t0.pg then bif aX t0.rd then bif aX t0.wt then bif aX t1.pg then bif aX t1.rd then bif aX t1.wt then bif aX t2.pg then bif aX t2.rd then bif aX t2.wt then bif aX h1.tr then spM [DV.agg [D.s (1) (3) (tC h1.w0) (tD h1.w0), D.s (1) (3) (tC h1.w1) (tD h1.w1), D.s (1) (3) (tC h1.w2) (tD h1.w2), D.s (1) (3) (tC h1.w3) (tD h1.w3), vN h1.c0, vN h1.c1, vN h1.c2, vN h1.c3, vN h1.ce, D.s (1) (17) [(sTt t0), (sTt t1), (sTt t2)] [], D.s (1) (4) (tC h1.tr) (tD h1.tr)]] ∧ Zdd [DV.agg (macL (0) h ss), DV.agg (macL (0) h ss)] ∧ ([] : List DV) = [] ∧ K (B true) else False else False else False else False else False else False else False else False else False else False else False else False else False else False else False else False else False else False else False else False else False else False else False else False else False else False else False else False else False else False else False else False else False else False else False else False else False else False else False else False else False else False) := by kernel_rfl
theorem eCl4 (h h1 : Mh) (ss : List SesD) (t0 t1 t2 t3 : SesD) (i e : Int) (K : DV → Prop) : (askW Tryz.prog (hkG [(19, sAtD [.agg (macL 0 h ss)] (.agg (macL 0 h ss))), (34, sAtD [.agg (macL 0 h ss), I i] (.tup [.agg (macL 0 h1 [t0, t1, t2, t3]), I e])), (24, Znm), (25, sI), (35, sAtD [] (B true)), (28, sSpM)] [(33, ZeO Tryz.prog [34] (sAtD [.agg (macL 0 h ss), I i] (.tup [.agg (macL 1 h1 [t0, t1, t2, t3]), I e])))] fun f => Nat.beq f 28) Tryz.f9 [.agg (macL 0 h ss), I i] K) = ([DV.agg (macL (0) h ss)] = [DV.agg (macL (0) h ss)] ∧ [DV.agg (macL (0) h ss), I i] = [DV.agg (macL (0) h ss), I i] ∧ [DV.agg (macL (0) h ss), I i] = [DV.agg (macL (0) h ss), I i] ∧ bif lX h1.w0 then bif lX h1.w1 then bif lX h1.w2 then bif lX h1.w3 then bif lX t0.pg then bif lX t0.rd then bif lX t0.wt then bif lX t1.pg then bif lX t1.rd then bif lX t1.wt then bif lX t2.pg then bif lX t2.rd then bif lX t2.wt then bif lX t3.pg then bif lX t3.rd then bif lX t3.wt then bif lX h1.tr then Zdd [DV.agg [D.s (0) (3) (cC h1.w0) (cD h1.w0), D.s (0) (3) (cC h1.w1) (cD h1.w1), D.s (0) (3) (cC h1.w2) (cD h1.w2), D.s (0) (3) (cC h1.w3) (cD h1.w3), vN h1.c0, vN h1.c1, vN h1.c2, vN h1.c3, vN h1.ce, D.s (0) (17) [(sQt t0), (sQt t1), (sQt t2), (sQt t3)] [], D.s (0) (4) (cC h1.tr) (cD h1.tr)], DV.agg (Zbu (0) h1 [(sesL (0) t0), (sesL (0) t1), (sesL (0) t2), (sesL (0) t3)])] ∧ bif e != e then K (B false) else bif kX h1.w0 then bif kX h1.w1 then bif kX h1.w2 then bif kX h1.w3 then bif kX t0.pg then bif kX t0.rd then bif kX t0.wt then bif kX t1.pg then bif kX t1.rd then bif kX t1.wt then bif kX t2.pg then bif kX t2.rd then bif kX t2.wt then bif kX t3.pg then bif kX t3.rd then bif kX t3.wt then bif kX h1.tr then bif aX h1.w0 then bif aX h1.w1 then bif aX h1.w2 then bif aX h1.w3 then bif aX t0.pg then bif aX t0.rd then bif aX t0.wt then bif aX t1.pg then bif aX t1.rd then bif aX t1.wt then bif aX t2.pg then bif aX t2.rd then bif aX t2.wt then bif aX t3.pg then bif aX t3.rd then bif aX t3.wt then bif aX h1.tr then spM [DV.agg [D.s (1) (3) (tC h1.w0) (tD h1.w0), D.s (1) (3) (tC h1.w1) (tD h1.w1), D.s (1) (3) (tC h1.w2) (tD h1.w2), D.s (1) (3) (tC h1.w3) (tD h1.w3), vN h1.c0, vN h1.c1, vN h1.c2, vN h1.c3, vN h1.ce, D.s (1) (17) [(sTt t0), (sTt t1), (sTt t2), (sTt t3)] [], D.s (1) (4) (tC h1.tr) (tD h1.tr)]] ∧ Zdd [DV.agg (macL (0) h ss), DV.agg (macL (0) h ss)] ∧ ([] : List DV) = [] ∧ K (B true) else False else False else False else False else False else False else False else False else False else False else False else False else False else False else False else False else False else False else False else False else False else False else False else False else False else False else False else False else False else False else False else False else False else False else False else False else False else False else False else False else False else False else False else False else False else False else False else False else False else False else False) := by kernel_rfl
theorem Ztf : Goes Tryz.prog 34 := Zao Tryz.func34 (by kernel_rfl) rfl
theorem ZqX (s : SesD) : ZaA (Zfy s) = ZaA s := by
  unfold Zfy
  cases iC s == 0 <;> cases iC s == 1 <;> cases ZhY s (iA s) == 0 <;> rfl
theorem ZuB : Zad Tryz.prog 24 Znm := o_al Tryz.func24 (by kernel_rfl) rfl fun ds Q q => by
  obtain ⟨⟨h, ss, ho, hl, ha⟩, q⟩ := q
  have := cSM h ss h ss ho ho hl
  rw [(ZpO ho ho).2 ⟨rfl, rfl⟩] at this
  exact ⟨_, _, ha, this, rfl, rfl, q⟩
theorem oSpM : Zad Tryz.prog 28 sSpM := fun ds Q q => by
  obtain ⟨⟨h, ss, hl, ho, rfl⟩, q⟩ := q
  exact ⟨Zao Tryz.func28 (by kernel_rfl) rfl, _, cSpM h ss ho hl, .inl rfl, rfl, q⟩
theorem Zti {h : Mh} {ss : List SesD} (hm : smM h ss = true) (hb : ss.length * 184 ≤ 140737488351232) : Zad Tryz.prog 19 (sAtD [.agg (macL 0 h ss)] (.agg (macL 0 h ss))) :=
  oAtZ Zvc (Ztb h ss hm hb) (ZlI hm) (Zof (Zre h ss) rfl) rfl
theorem oZ {f : FuncId} {h h1 : Mh} {ss ts : List SesD} {i e : Int} (hg : Goes Tryz.prog f) (hc : CT Tryz.prog f [.agg (macL 0 h ss), I i] (macR h1 ts e)) (hs : smM h1 ts = true) : Zad Tryz.prog f (sAtD [.agg (macL 0 h ss), I i] (.tup [.agg (macL 0 h1 ts), I e])) := oAtZ hg hc (Zia hs e) (ZqK _ _ _) rfl
theorem iZ {f : FuncId} {h h1 : Mh} {ss ts : List SesD} {i e : Int} (hg : Goes Tryz.prog f) (hc : CT Tryz.prog f [.agg (macL 0 h ss), I i] (macR h1 ts e)) (hs : smM h1 ts = true) : Zbi Tryz.prog f (ZeO Tryz.prog [34] (sAtD [.agg (macL 0 h ss), I i] (.tup [.agg (macL 1 h1 ts), I e]))) := ZdC (oAtD hg hc (Zia hs e) rfl)
theorem ZcD {h : Mh} {ss : List SesD} (ho : okM h ss = true) (hl : ss.length ≤ 9223372036854775806) : Zdd [.agg (macL 0 h ss), .agg (macL 0 h ss)] := ⟨h, ss, ho, hl, .cons (.refl _) (.cons (.refl _) .nil)⟩
theorem Zjd {h : Mh} {ss : List SesD} (ho : okM h ss = true) (hl : ss.length ≤ 4) : spM [.agg (macL 1 h ss)] := ⟨h, ss, hl, ho, rfl⟩
theorem cClA (h h1 : Mh) (ss ts : List SesD) (i e : Int) (hok : okM h ss = true) (hsm : smM h ss = true) (hb : ss.length * 184 ≤ 140737488351232) (hok1 : okM h1 ts = true) (hsm1 : smM h1 ts = true) (hl : ts.length ≤ 4) (hc : CT Tryz.prog 33 [.agg (macL 0 h ss), I i] (macR h1 ts e)) (hr : CT Tryz.prog 34 [.agg (macL 0 h ss), I i] (macR h1 ts e)) : CT Tryz.prog 9 [.agg (macL 0 h ss), I i] (B true) := by
  obtain ⟨g1, g2, g3⟩ := ZbH hok1
  obtain ⟨w0, w1, w2, w3⟩ := ZbV g1
  have q := List.all_eq_true.1 g3
  have hbig : ss.length ≤ 9223372036854775806 := by omega
  have hs0 := ZcD hok hbig
  have hH := fun (hz : Zad Tryz.prog 34 (sAtD [.agg (macL 0 h ss), I i] (.tup [.agg (macL 0 h1 ts), I e]))) (hi : Zbi Tryz.prog 33 (ZeO Tryz.prog [34] (sAtD [.agg (macL 0 h ss), I i] (.tup [.agg (macL 1 h1 ts), I e])))) => Zn3 (g := fun f => Nat.beq f 28) (.cons (Zti hsm hb) (.cons hz (.cons ZuB (.cons oNum (.cons ZuR (.cons oSpM .nil)))))) (.cons hi .nil)
  have hH := hH (oZ Ztf hr hsm1) (iZ gCal hc hsm1)
  have hne : (e != e) = false := by simp
  rcases ts with _ | ⟨s0, _ | ⟨s1, _ | ⟨s2, _ | ⟨s3, _ | ⟨s4, l⟩⟩⟩⟩⟩
  · have hs1 := ZcD (h := h1) (ss := []) hok1 (by simp)
    have hp1 := Zjd (h := h1) (ss := []) hok1 (by simp)
    refine ct_w hH mixed Zbq Tryz.func9 rfl rfl rfl ?_
    rw [eCl0]
    refine ⟨?_⟩
    simp only [lX_t, ZnH, Zog, cC_e, cD_e, tC_e, tD_e, kX_t (Zaa w0), aX_t (Zaa w0), kX_t (Zaa w1), aX_t (Zaa w1), kX_t (Zaa w2), aX_t (Zaa w2), kX_t (Zaa w3), aX_t (Zaa w3), kX_t (Zaa g2), aX_t (Zaa g2), Bool.and_self, cond_true, cond_false, hne, true_and]
    exact ⟨hs1, hp1, hs0, AL.refl _⟩
  · have k0 := q s0 (by simp)
    obtain ⟨p0, r0, u0⟩ := ZaX k0
    have hs1 := ZcD (h := h1) (ss := [s0]) hok1 (by simp)
    have hp1 := Zjd (h := h1) (ss := [s0]) hok1 (by simp)
    refine ct_w hH mixed Zbq Tryz.func9 rfl rfl rfl ?_
    rw [eCl1]
    refine ⟨?_⟩
    simp only [lX_t, ZnH, Zog, cC_e, cD_e, tC_e, tD_e, kX_t (Zaa w0), aX_t (Zaa w0), kX_t (Zaa w1), aX_t (Zaa w1), kX_t (Zaa w2), aX_t (Zaa w2), kX_t (Zaa w3), aX_t (Zaa w3), kX_t (Zaa g2), aX_t (Zaa g2), kX_t (Zaa p0), aX_t (Zaa p0), kX_t (Zaa r0), aX_t (Zaa r0), kX_t (Zaa u0), aX_t (Zaa u0), Bool.and_self, cond_true, cond_false, hne, true_and]
    exact ⟨hs1, hp1, hs0, AL.refl _⟩
  · have k0 := q s0 (by simp)
    obtain ⟨p0, r0, u0⟩ := ZaX k0
    have k1 := q s1 (by simp)
    obtain ⟨p1, r1, u1⟩ := ZaX k1
    have hs1 := ZcD (h := h1) (ss := [s0, s1]) hok1 (by simp)
    have hp1 := Zjd (h := h1) (ss := [s0, s1]) hok1 (by simp)
    refine ct_w hH mixed Zbq Tryz.func9 rfl rfl rfl ?_
    rw [eCl2]
    refine ⟨?_⟩
    simp only [lX_t, ZnH, Zog, cC_e, cD_e, tC_e, tD_e, kX_t (Zaa w0), aX_t (Zaa w0), kX_t (Zaa w1), aX_t (Zaa w1), kX_t (Zaa w2), aX_t (Zaa w2), kX_t (Zaa w3), aX_t (Zaa w3), kX_t (Zaa g2), aX_t (Zaa g2), kX_t (Zaa p0), aX_t (Zaa p0), kX_t (Zaa r0), aX_t (Zaa r0), kX_t (Zaa u0), aX_t (Zaa u0), kX_t (Zaa p1), aX_t (Zaa p1), kX_t (Zaa r1), aX_t (Zaa r1), kX_t (Zaa u1), aX_t (Zaa u1), Bool.and_self, cond_true, cond_false, hne, true_and]
    exact ⟨hs1, hp1, hs0, AL.refl _⟩
  · have k0 := q s0 (by simp)
    obtain ⟨p0, r0, u0⟩ := ZaX k0
    have k1 := q s1 (by simp)
    obtain ⟨p1, r1, u1⟩ := ZaX k1
    have k2 := q s2 (by simp)
    obtain ⟨p2, r2, u2⟩ := ZaX k2
    have hs1 := ZcD (h := h1) (ss := [s0, s1, s2]) hok1 (by simp)
    have hp1 := Zjd (h := h1) (ss := [s0, s1, s2]) hok1 (by simp)
    refine ct_w hH mixed Zbq Tryz.func9 rfl rfl rfl ?_
    rw [eCl3]
    refine ⟨?_⟩
    simp only [lX_t, ZnH, Zog, cC_e, cD_e, tC_e, tD_e, kX_t (Zaa w0), aX_t (Zaa w0), kX_t (Zaa w1), aX_t (Zaa w1), kX_t (Zaa w2), aX_t (Zaa w2), kX_t (Zaa w3), aX_t (Zaa w3), kX_t (Zaa g2), aX_t (Zaa g2), kX_t (Zaa p0), aX_t (Zaa p0), kX_t (Zaa r0), aX_t (Zaa r0), kX_t (Zaa u0), aX_t (Zaa u0), kX_t (Zaa p1), aX_t (Zaa p1), kX_t (Zaa r1), aX_t (Zaa r1), kX_t (Zaa u1), aX_t (Zaa u1), kX_t (Zaa p2), aX_t (Zaa p2), kX_t (Zaa r2), aX_t (Zaa r2), kX_t (Zaa u2), aX_t (Zaa u2), Bool.and_self, cond_true, cond_false, hne, true_and]
    exact ⟨hs1, hp1, hs0, AL.refl _⟩
  · have k0 := q s0 (by simp)
    obtain ⟨p0, r0, u0⟩ := ZaX k0
    have k1 := q s1 (by simp)
    obtain ⟨p1, r1, u1⟩ := ZaX k1
    have k2 := q s2 (by simp)
    obtain ⟨p2, r2, u2⟩ := ZaX k2
    have k3 := q s3 (by simp)
    obtain ⟨p3, r3, u3⟩ := ZaX k3
    have hs1 := ZcD (h := h1) (ss := [s0, s1, s2, s3]) hok1 (by simp)
    have hp1 := Zjd (h := h1) (ss := [s0, s1, s2, s3]) hok1 (by simp)
    refine ct_w hH mixed Zbq Tryz.func9 rfl rfl rfl ?_
    rw [eCl4]
    refine ⟨?_⟩
    simp only [lX_t, ZnH, Zog, cC_e, cD_e, tC_e, tD_e, kX_t (Zaa w0), aX_t (Zaa w0), kX_t (Zaa w1), aX_t (Zaa w1), kX_t (Zaa w2), aX_t (Zaa w2), kX_t (Zaa w3), aX_t (Zaa w3), kX_t (Zaa g2), aX_t (Zaa g2), kX_t (Zaa p0), aX_t (Zaa p0), kX_t (Zaa r0), aX_t (Zaa r0), kX_t (Zaa u0), aX_t (Zaa u0), kX_t (Zaa p1), aX_t (Zaa p1), kX_t (Zaa r1), aX_t (Zaa r1), kX_t (Zaa u1), aX_t (Zaa u1), kX_t (Zaa p2), aX_t (Zaa p2), kX_t (Zaa r2), aX_t (Zaa r2), kX_t (Zaa u2), aX_t (Zaa u2), kX_t (Zaa p3), aX_t (Zaa p3), kX_t (Zaa r3), aX_t (Zaa r3), kX_t (Zaa u3), aX_t (Zaa u3), Bool.and_self, cond_true, cond_false, hne, true_and]
    exact ⟨hs1, hp1, hs0, AL.refl _⟩
  · simp at hl
theorem cCl (h : Mh) (ss : List SesD) (i : Int) (hok : okM h ss = true) (hsm : smM h ss = true) (hb : ss.length * 184 ≤ 140737488351232) : CT Tryz.prog 9 [.agg (macL 0 h ss), I i] (B true) := by
  have hc := Zs1 h ss i hok
  have hr := Zvm h ss i hok
  cases hm : mAt (has3 0 1 4) h ss i with
  | false =>
    simp only [hm, cond_false] at hc hr
    exact cClA h h0 ss [] i 1700 hok hsm hb rfl rfl (by decide) hc hr
  | true =>
    obtain ⟨s, f, hst, hp0, hp1, hp2, hcode⟩ := Zid hok hm
    simp only [hm, f.getD, cond_true] at hc hr
    have hsm1 : smM h (ss.set i.toNat (Zfy s)) = true := f.smS1 (by rw [Zmz]; exact f.smS)
    have hok1 : okM h (ss.set i.toNat (Zfy s)) = true := by
      obtain ⟨a, b, c⟩ := ZbH hok
      unfold okM
      rw [a, b, Zqq c (by rw [ZqX]; exact f.ok)]; rfl
    exact cClA h h ss _ i 0 hok hsm hb hok1 hsm1 (by rw [List.length_set]; exact f.len) hc hr
theorem cClg (xs : List D) (i : Int) (g : GoodL kMac xs) : CT Tryz.prog 9 [.agg xs, I i] (B true) := by
  obtain ⟨h, ss, rfl, ho, hs, hb⟩ := Zv8 g
  exact cCl h ss i ho hs hb
end

end Vm
